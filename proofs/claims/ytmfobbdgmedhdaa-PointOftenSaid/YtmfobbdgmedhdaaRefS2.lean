/- Package beaconref03: bytes modulo the order, sums and products. -/
import Derived.Test.YtmfobbdgmedhdaaRefS
namespace Go.Proofs.Ytmfobbdgmedhdaa
open Go Go.Eng
set_option linter.unusedVariables false
set_option maxRecDepth 100000

theorem pair_eta' {α β : Type} (x : α × β) : (x.1, x.2) = x := rfl
noncomputable def modS (b : B32) : Nat → N4 → N4
  | 0, o => o
  | k + 1, o => modS b k (match bitB b k with
    | true => plusL (plusL o o) one4
    | false => plusL o o)
noncomputable def modN (b : B32) : N4 := modS b 256 zero4

namespace smod
noncomputable abbrev fn := Try.f74
noncomputable def body : Code := bodyOf fn
noncomputable def A : Code := cs1 body
noncomputable def B : Code := cs1 (cs2 body)
noncomputable def C : Code := cs1 (cs1 (cs2 (cs2 body)))
noncomputable def L : Code := cL (cB (cs2 (cs1 (cs2 (cs2 body)))))
noncomputable def D : Code := cs2 (cs2 (cs2 body))
theorem body_eq : body = .seq A (.seq B (.seq (.seq C (.block 0 (.loop L))) D)) := by kernel_rfl
noncomputable def Γ : Cons Try.prog := [splus_con]
noncomputable def S (b : B32) (ty : TypeId) (k : Nat) (o : N4) (g : Nat → SV) : List SV × List Blk := ([.o (.a (.slc 0 0 32 32)), g 1, .o (.a (.ptr 1 0)), .o (.a (.ptr 2 0)), (cInt .i64).enc ((k : Int) - 1), g 5, g 6, g 7, g 8, g 9, g 10, g 11, g 12, g 13, g 14, g 15, g 16, g 17, g 18, g 19, g 20, g 21, g 22, g 23, g 24, g 25, g 26, g 27, g 28, g 29, g 30], [⟨false, ty, cB32.row b⟩, ⟨true, 65, cN4.row zero4⟩, ⟨true, 65, cN4.row o⟩])
noncomputable def st (b : B32) (ty : TypeId) (k : Nat) (o : N4) (g : Nat → SV) (r : Orc) : St := ⟨(S b ty k o g).1, (S b ty k o g).2, r⟩
noncomputable def s0 (b : B32) (ty : TypeId) : St := ⟨startT fn [.o (.a (.slc 0 0 32 32))], [⟨false, ty, cB32.row b⟩], []⟩
noncomputable def s1 (b : B32) (ty : TypeId) : St := outS Γ tys 100 A (s0 b ty)
theorem preA (b : B32) (ty : TypeId) : exec Γ tys 100 A (s0 b ty) = some (.normal, ⟨(s1 b ty).tm, (s1 b ty).mem, []⟩, []) := by kernel_rfl
noncomputable def s2 (b : B32) (ty : TypeId) : St := outS Γ tys 100 B (s1 b ty)
theorem preB (b : B32) (ty : TypeId) : exec Γ tys 100 B ⟨(s1 b ty).tm, (s1 b ty).mem, []⟩ = some (.normal, ⟨(s2 b ty).tm, (s2 b ty).mem, []⟩, []) := by kernel_rfl
theorem preC (b : B32) (ty : TypeId) : exec Γ tys 100 C ⟨(s2 b ty).tm, (s2 b ty).mem, []⟩ = some (.normal, st b ty 256 zero4 (outT Γ tys 100 C (s2 b ty)) [], []) := by kernel_rfl
theorem tab1 (b : B32) (ty : TypeId) (o : N4) (g : Nat → SV) : tabL (fun j => exec Γ tys 100 L (st b ty (j + 1) o g [(26, [true])])) 256 = tabR (fun j => some (.normal, st b ty j (plusL (plusL o o) one4) (outT Γ tys 100 L (st b ty (j + 1) o g [(26, [true])])) [(26, [])], [N4Ok o, N4Ok o, bitB b j = true, N4Ok (plusL o o), N4Ok one4])) 256 := by kernel_rfl
theorem tab0 (b : B32) (ty : TypeId) (o : N4) (g : Nat → SV) : tabL (fun j => exec Γ tys 100 L (st b ty (j + 1) o g [(26, [false])])) 256 = tabR (fun j => some (.normal, st b ty j (plusL o o) (outT Γ tys 100 L (st b ty (j + 1) o g [(26, [false])])) [(26, [])], [N4Ok o, N4Ok o, bitB b j = false])) 256 := by kernel_rfl
theorem last (b : B32) (ty : TypeId) (o : N4) (g : Nat → SV) : exec Γ tys 100 L (st b ty 0 o g []) = some (.exit 0, st b ty 0 o (outT Γ tys 100 L (st b ty 0 o g [])) [], []) := by kernel_rfl
noncomputable def fin (b : B32) (ty : TypeId) (o : N4) (g : Nat → SV) : St := outS Γ tys 100 D (st b ty 0 o g [])
theorem post (b : B32) (ty : TypeId) (o : N4) (g : Nat → SV) : exec Γ tys 100 D (st b ty 0 o g []) = some (.ret, ⟨(fin b ty o g).tm, (fin b ty o g).mem, []⟩, []) := by kernel_rfl
theorem result (b : B32) (ty : TypeId) (o : N4) (g : Nat → SV) : eRes tys (fin b ty o g).tm (fun k => (fin b ty o g).mem[k]?) fn.results.toList = some [.g (cN4.row o)] := by kernel_rfl
end smod
theorem one4_ok : N4Ok one4 := by unfold N4Ok Word; decide
theorem smod_mem (b : B32) (ty : TypeId) : FnMem Try.prog 74 [.o (.a (.slc 0 0 32 32))] [⟨false, ty, cB32.row b⟩] (cN4.enc (modN b)) := by
  refine FnMem.of_runs tys_ok Try.func74 (c := smod.body) (by kernel_rfl) ?_ rfl rfl
  rw [smod.body_eq]
  refine Runs.seq (Runs.of_exec tys_ok mixed (smod.preA b ty) trivial ?_)
  refine Runs.seq (Runs.of_exec tys_ok mixed (smod.preB b ty) trivial ?_)
  refine Runs.seq (Runs.seq (Runs.of_exec tys_ok mixed (smod.preC b ty) trivial ?_))
  refine Runs.block ?_
  refine Runs.loop (fun (x : Nat × N4 × (Nat → SV)) => smod.S b ty x.1 x.2.1 x.2.2) (fun x => x.1 ≤ 256 ∧ N4Ok x.2.1 ∧ modS b x.1 x.2.1 = modN b) (fun x => x.1) ?_ (256, zero4, _) ⟨Nat.le_refl _, zero4_ok, rfl⟩
  rintro ⟨k, o, g⟩ ⟨hk, ho, hr⟩
  simp only at hk ho hr
  cases k with
  | zero =>
    refine Runs.of_exec tys_ok mixed (smod.last b ty o g) trivial ?_
    show Runs Try.prog smod.D _ _ _
    refine Runs.of_exec tys_ok mixed (smod.post b ty o _) trivial (Ends.ret (smod.result b ty o _) ?_)
    rw [← hr]
    rfl
  | succ k =>
    have hoo := plusL_ok ho ho
    cases hb : bitB b k with
    | true =>
      refine Runs.of_exec tys_ok mixed (tab_get (smod.tab1 b ty o g) k (by omega)) ⟨ho, ho, hb, hoo, one4_ok, trivial⟩ ?_
      exact ⟨(k, plusL (plusL o o) one4, outT smod.Γ tys 100 smod.L (smod.st b ty (k + 1) o g [(26, [true])])), pair_eta' _, ⟨by simp only; omega, plusL_ok hoo one4_ok, by rw [← hr]; simp only [modS, hb]⟩, Nat.lt_succ_self _⟩
    | false =>
      refine Runs.of_exec tys_ok mixed (tab_get (smod.tab0 b ty o g) k (by omega)) ⟨ho, ho, hb, trivial⟩ ?_
      exact ⟨(k, plusL o o, outT smod.Γ tys 100 smod.L (smod.st b ty (k + 1) o g [(26, [false])])), pair_eta' _, ⟨by simp only; omega, hoo, by rw [← hr]; simp only [modS, hb]⟩, Nat.lt_succ_self _⟩
noncomputable def smod_con : Con Try.prog := conSlc 74 Try.f74 Try.func74 (by kernel_rfl) (by kernel_rfl) 32 cB32 (fun b => cN4.enc (modN b)) (fun _ => []) (fun _ => rfl) (fun b ty _ => smod_mem b ty)
theorem modS_ok {b : B32} : ∀ (k : Nat) (o : N4), N4Ok o → N4Ok (modS b k o)
  | 0, o, ho => ho
  | k + 1, o, ho => by
    unfold modS
    have hoo := plusL_ok ho ho
    cases bitB b k with
    | true => exact modS_ok k _ (plusL_ok hoo one4_ok)
    | false => exact modS_ok k _ hoo
theorem modN_ok (b : B32) : N4Ok (modN b) := modS_ok 256 _ zero4_ok
noncomputable def saddB (a b : B32) : B32 := bytes4 (plusL (modN a) (modN b))
theorem sadd_fn (a b : B32) : FnOk Try.prog 35 [cB32.enc a, cB32.enc b] (cB32.enc (saddB a b)) :=
  FnOk.of_out (Γ := [smod_con, splus_con, sbytes_con]) tys_ok mixed Try.func35 (n := 100) (orc := []) (cs := [N4Ok (modN a), N4Ok (modN b)]) (by kernel_rfl) ⟨modN_ok a, modN_ok b, trivial⟩ rfl rfl
noncomputable def sadd_con : Con Try.prog := con2 35 Try.f35 Try.func35 (by kernel_rfl) (by kernel_rfl) (cB32) (cB32) (fun a b => cB32.enc (saddB a b)) (fun _ _ => []) (fun _ _ => rfl) (fun a b _ => sadd_fn a b)
noncomputable def mulS (x y : N4) : Nat → N4 → N4
  | 0, o => o
  | k + 1, o => mulS x y k (match bitW x k with
    | true => plusL (plusL o o) y
    | false => plusL o o)
end Go.Proofs.Ytmfobbdgmedhdaa

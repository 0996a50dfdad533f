/- Package beaconref04: a point taken so many times, bit by bit, and what is made of it. -/
import Derived.Test.YtmfobbdgmedhdaaRefP2
import Derived.Test.YtmfobbdgmedhdaaRefS2
namespace Go.Proofs.Ytmfobbdgmedhdaa
open Go Go.Eng
set_option linter.unusedVariables false
set_option maxRecDepth 100000

noncomputable def oftQ (n : B32) (p : P16) : Nat → P16 → P16
  | 0, o => o
  | k + 1, o => oftQ n p k (match bitB n k with
    | true => sumQ (sumQ o o) p
    | false => sumQ o o)
noncomputable def oftenQ (n : B32) (p : P16) : P16 := oftQ n p 256 neutralQ
theorem neutralQ_ok : QOk neutralQ := ⟨zero4_ok, one4_ok', one4_ok', zero4_ok⟩
theorem oftQ_ok {n : B32} {p : P16} (hp : QOk p) : ∀ (k : Nat) (o : P16), QOk o → QOk (oftQ n p k o)
  | 0, o, ho => ho
  | k + 1, o, ho => by
    unfold oftQ
    have hoo := sumQ_ok ho ho
    cases bitB n k with
    | true => exact oftQ_ok hp k _ (sumQ_ok hoo hp)
    | false => exact oftQ_ok hp k _ hoo
theorem oftenQ_ok {n : B32} {p : P16} (hp : QOk p) : QOk (oftenQ n p) := oftQ_ok hp 256 _ neutralQ_ok

namespace qoft
noncomputable abbrev fn := Try.f81
noncomputable def body : Code := bodyOf fn
noncomputable def A : Code := cs1 body
noncomputable def B : Code := cs1 (cs2 body)
noncomputable def C : Code := cs1 (cs1 (cs2 (cs2 body)))
noncomputable def L : Code := cL (cB (cs2 (cs1 (cs2 (cs2 body)))))
noncomputable def D : Code := cs2 (cs2 (cs2 body))
theorem body_eq : body = .seq A (.seq B (.seq (.seq C (.block 0 (.loop L))) D)) := by kernel_rfl
noncomputable def Γ : Cons Try.prog := [qneutral_con, qsum_con]
noncomputable def S (n : B32) (p : P16) (k : Nat) (o : P16) (g : Nat → SV) : List SV × List Blk := ([cB32.enc n, cQ.enc p, .o (.a (.ptr 0 0)), .o (.a (.ptr 1 0)), .o (.a (.ptr 2 0)), .o (.a (.ptr 3 0)), (cInt .i64).enc ((k : Int) - 1), g 7, g 8, g 9, g 10, g 11, g 12, g 13, g 14, g 15, g 16, g 17, g 18, g 19, g 20, g 21, g 22, g 23, g 24, g 25, g 26, g 27, g 28], [⟨true, 22, cB32.row n⟩, ⟨true, 71, cQ.row p⟩, ⟨true, 71, cQ.row noneQ⟩, ⟨true, 71, cQ.row o⟩])
noncomputable def st (n : B32) (p : P16) (k : Nat) (o : P16) (g : Nat → SV) (r : Orc) : St := ⟨(S n p k o g).1, (S n p k o g).2, r⟩
noncomputable def s0 (n : B32) (p : P16) : St := ⟨startT fn [cB32.enc n, cQ.enc p], [], []⟩
noncomputable def s1 (n : B32) (p : P16) : St := outS Γ tys 100 A (s0 n p)
theorem preA (n : B32) (p : P16) : exec Γ tys 100 A (s0 n p) = some (.normal, ⟨(s1 n p).tm, (s1 n p).mem, []⟩, []) := by kernel_rfl
noncomputable def s2 (n : B32) (p : P16) : St := outS Γ tys 100 B (s1 n p)
theorem preB (n : B32) (p : P16) : exec Γ tys 100 B ⟨(s1 n p).tm, (s1 n p).mem, []⟩ = some (.normal, ⟨(s2 n p).tm, (s2 n p).mem, []⟩, []) := by kernel_rfl
theorem preC (n : B32) (p : P16) : exec Γ tys 100 C ⟨(s2 n p).tm, (s2 n p).mem, []⟩ = some (.normal, st n p 256 neutralQ (outT Γ tys 100 C (s2 n p)) [], []) := by kernel_rfl
theorem tab1 (n : B32) (p : P16) (o o2 o3 : P16) (g : Nat → SV) : tabL (fun j => exec Γ tys 100 L (st n p (j + 1) o g [(14, [.s (cQ.enc o2)]), (24, [true]), (27, [.s (cQ.enc o3)])])) 256 = tabR (fun j => some (.normal, st n p j o3 (outT Γ tys 100 L (st n p (j + 1) o g [(14, [.s (cQ.enc o2)]), (24, [true]), (27, [.s (cQ.enc o3)])])) [(14, []), (24, []), (27, [])], [QOk o, QOk o, cQ.enc (sumQ o o) = cQ.enc o2, bitB n j = true, QOk o2, QOk p, cQ.enc (sumQ o2 p) = cQ.enc o3])) 256 := by kernel_rfl
theorem tab0 (n : B32) (p : P16) (o o2 : P16) (g : Nat → SV) : tabL (fun j => exec Γ tys 100 L (st n p (j + 1) o g [(14, [.s (cQ.enc o2)]), (24, [false])])) 256 = tabR (fun j => some (.normal, st n p j o2 (outT Γ tys 100 L (st n p (j + 1) o g [(14, [.s (cQ.enc o2)]), (24, [false])])) [(14, []), (24, [])], [QOk o, QOk o, cQ.enc (sumQ o o) = cQ.enc o2, bitB n j = false])) 256 := by kernel_rfl
theorem last (n : B32) (p : P16) (o : P16) (g : Nat → SV) : exec Γ tys 100 L (st n p 0 o g []) = some (.exit 0, st n p 0 o (outT Γ tys 100 L (st n p 0 o g [])) [], []) := by kernel_rfl
noncomputable def fin (n : B32) (p : P16) (o : P16) (g : Nat → SV) : St := outS Γ tys 100 D (st n p 0 o g [])
theorem post (n : B32) (p : P16) (o : P16) (g : Nat → SV) : exec Γ tys 100 D (st n p 0 o g []) = some (.ret, ⟨(fin n p o g).tm, (fin n p o g).mem, []⟩, []) := by kernel_rfl
theorem result (n : B32) (p : P16) (o : P16) (g : Nat → SV) : eRes tys (fin n p o g).tm (fun k => (fin n p o g).mem[k]?) fn.results.toList = some [.g (cQ.row o)] := by kernel_rfl
end qoft
theorem qoft_loop (n : B32) (p : P16) (hp : QOk p) (g : Nat → SV) {Post : Ex → List SV → List Blk → Prop} (hP : ∀ o g', o = oftenQ n p → Post .normal (qoft.S n p 0 o g').1 (qoft.S n p 0 o g').2) :
    Runs Try.prog (.block 0 (.loop qoft.L)) (qoft.S n p 256 neutralQ g).1 (qoft.S n p 256 neutralQ g).2 Post := by
  refine Runs.block ?_
  refine Runs.loop (fun (t : Nat × P16 × (Nat → SV)) => qoft.S n p t.1 t.2.1 t.2.2) (fun t => t.1 ≤ 256 ∧ QOk t.2.1 ∧ oftQ n p t.1 t.2.1 = oftenQ n p) (fun t => t.1) ?_ (256, neutralQ, g) ⟨Nat.le_refl _, neutralQ_ok, by rw [oftenQ]⟩
  rintro ⟨k, o, g⟩ ⟨hk, ho, hr⟩
  simp only at hk ho hr
  cases k with
  | zero =>
    rw [oftQ] at hr
    exact Runs.of_exec tys_ok mixed (qoft.last n p o g) trivial (hP _ _ hr)
  | succ k =>
    have hoo := sumQ_ok ho ho
    rw [oftQ] at hr
    cases hb : bitB n k with
    | true =>
      rw [hb] at hr
      exact Runs.of_exec tys_ok mixed (tab_get (qoft.tab1 n p o (sumQ o o) (sumQ (sumQ o o) p) g) k (by omega)) ⟨ho, ho, rfl, hb, hoo, hp, rfl, trivial⟩
        ⟨(k, sumQ (sumQ o o) p, outT qoft.Γ tys 100 qoft.L (qoft.st n p (k + 1) o g [(14, [.s (cQ.enc (sumQ o o))]), (24, [true]), (27, [.s (cQ.enc (sumQ (sumQ o o) p))])])), pair_eta' _, ⟨by simp only; omega, sumQ_ok hoo hp, hr⟩, Nat.lt_succ_self _⟩
    | false =>
      rw [hb] at hr
      exact Runs.of_exec tys_ok mixed (tab_get (qoft.tab0 n p o (sumQ o o) g) k (by omega)) ⟨ho, ho, rfl, hb, trivial⟩
        ⟨(k, sumQ o o, outT qoft.Γ tys 100 qoft.L (qoft.st n p (k + 1) o g [(14, [.s (cQ.enc (sumQ o o))]), (24, [false])])), pair_eta' _, ⟨by simp only; omega, hoo, hr⟩, Nat.lt_succ_self _⟩
theorem qoft_last (n : B32) (p o : P16) (g : Nat → SV) : Runs Try.prog qoft.D (qoft.S n p 0 o g).1 (qoft.S n p 0 o g).2 (Go.Eng.Ends tys qoft.fn (cQ.enc o)) :=
  Runs.of_exec tys_ok mixed (qoft.post n p o g) trivial (Ends.ret (qoft.result n p o g) rfl)
theorem qoft_fn (n : B32) (p : P16) (hh : Holds [QOk p]) : FnOk Try.prog 81 [cB32.enc n, cQ.enc p] (cQ.enc (oftenQ n p)) := by
  refine FnOk.of_runs tys_ok Try.func81 (c := qoft.body) (by kernel_rfl) ?_ rfl rfl
  rw [qoft.body_eq]
  refine Runs.seq (Runs.of_exec tys_ok mixed (qoft.preA n p) trivial ?_)
  refine Runs.seq (Runs.of_exec tys_ok mixed (qoft.preB n p) trivial ?_)
  refine Runs.seq (Runs.seq (Runs.of_exec tys_ok mixed (qoft.preC n p) trivial ?_))
  refine qoft_loop n p hh.1 _ fun o g' hr => ?_
  have he := qoft_last n p o g'
  rw [hr] at he ⊢
  exact he
noncomputable def qoft_con : Con Try.prog := con2 81 Try.f81 Try.func81 (by kernel_rfl) (by kernel_rfl) (cB32) (cQ) (fun n p => cQ.enc (oftenQ n p)) (fun n p => [QOk p]) (fun _ _ => rfl) (fun n p h => qoft_fn n p h)
noncomputable def qmulB (n a : B32) : B32 := match qOk a with
  | true => encQ (oftenQ n (qP a))
  | false => zeroB
theorem qmul_fn (n a : B32) (hp : Holds [BOk a]) : FnOk Try.prog 41 [cB32.enc n, cB32.enc a] (flagB (qmulB n a) (errOf (qOk a))) := by
  have ha := qP_ok hp.1
  unfold qmulB
  cases h : qOk a with
  | true => exact FnOk.of_out (Γ := [qdec_con, qoft_con, qenc_con]) tys_ok mixed Try.func41 (n := 100) (orc := [(12, [true])]) (cs := [BOk a, qOk a = true, QOk (qP a), QOk (oftenQ n (qP a))]) (by kernel_rfl) ⟨hp.1, h, ha, oftenQ_ok ha, trivial⟩ rfl rfl
  | false => exact FnOk.of_out (Γ := [qdec_con, qoft_con, qenc_con]) tys_ok mixed Try.func41 (n := 100) (orc := [(12, [false])]) (cs := [BOk a, qOk a = false]) (by kernel_rfl) ⟨hp.1, h, trivial⟩ rfl rfl
noncomputable def qmul_con : Con Try.prog := con2 41 Try.f41 Try.func41 (by kernel_rfl) (by kernel_rfl) (cB32) (cB32) (fun n a => flagB (qmulB n a) (errOf (qOk a))) (fun n a => [BOk a]) (fun _ _ => rfl) (fun n a h => qmul_fn n a h)
theorem genPt_ok : BOk genPt := by
  intro i
  unfold B32.at genPt
  split <;> exact ⟨by decide, by decide⟩
noncomputable def qbaseB (n : B32) : B32 := encQ (oftenQ n (qP genPt))
theorem qbase_walk (n : B32) (q o : P16) (f : Bool) (h0 : BOk genPt) (h1 : flagQ (qP genPt) (qOk genPt) = flagQ q f) (h2 : QOk q) (h3 : cQ.enc (oftenQ n q) = cQ.enc o) (h4 : QOk o) : FnOk Try.prog 45 [cB32.enc n] (cB32.enc (encQ o)) :=
  FnOk.of_out (Γ := [qgen_con, qdec_con, qoft_con, qenc_con]) tys_ok mixed Try.func45 (n := 100) (orc := [(7, [.s (flagQ q f)]), (12, [.s (cQ.enc o)])]) (cs := [BOk genPt, flagQ (qP genPt) (qOk genPt) = flagQ q f, QOk q, cQ.enc (oftenQ n q) = cQ.enc o, QOk o]) (by kernel_rfl) ⟨h0, h1, h2, h3, h4, trivial⟩ rfl rfl
theorem qbase_fn (n : B32) : FnOk Try.prog 45 [cB32.enc n] (cB32.enc (qbaseB n)) :=
  qbase_walk n _ _ _ genPt_ok rfl (qP_ok genPt_ok) rfl (oftenQ_ok (qP_ok genPt_ok))
noncomputable def qbase_con : Con Try.prog := con1 45 Try.f45 Try.func45 (by kernel_rfl) (by kernel_rfl) (cB32) (fun n => cB32.enc (qbaseB n)) (fun _ => []) (fun _ => rfl) (fun n _ => qbase_fn n)
noncomputable def qclearB (a : B32) : B32 := qmulB (numB 8) a
theorem qclear_fn (a : B32) (hp : Holds [BOk a]) : FnOk Try.prog 42 [cB32.enc a] (flagB (qclearB a) (errOf (qOk a))) :=
  FnOk.of_out (Γ := [qmul_con]) tys_ok mixed Try.func42 (n := 100) (orc := []) (cs := [BOk a]) (by kernel_rfl) hp rfl rfl
noncomputable def qclear_con : Con Try.prog := con1 42 Try.f42 Try.func42 (by kernel_rfl) (by kernel_rfl) (cB32) (fun a => flagB (qclearB a) (errOf (qOk a))) (fun a => [BOk a]) (fun _ => rfl) (fun a h => qclear_fn a h)
noncomputable def qsmallF (a : B32) : Bool := match qOk a with
  | true => eqB (qclearB a) zeroPt
  | false => false
theorem qsmall_walk1 (a c : B32) (h0 : BOk a) (h1 : flagB (qclearB a) (errOf (qOk a)) = flagB c 0) : FnOk Try.prog 43 [cB32.enc a] (flagZ (eqB c zeroPt) 0) :=
  FnOk.of_out (Γ := [qclear_con, qzero_con]) tys_ok mixed Try.func43 (n := 100) (orc := [(8, [.s (flagB c 0)])]) (cs := [BOk a, flagB (qclearB a) (errOf (qOk a)) = flagB c 0]) (by kernel_rfl) ⟨h0, h1, trivial⟩ rfl rfl
theorem qsmall_walk2 (a c : B32) (h0 : BOk a) (h1 : flagB (qclearB a) (errOf (qOk a)) = flagB c 2) : FnOk Try.prog 43 [cB32.enc a] (flagZ false 2) :=
  FnOk.of_out (Γ := [qclear_con, qzero_con]) tys_ok mixed Try.func43 (n := 100) (orc := [(8, [.s (flagB c 2)])]) (cs := [BOk a, flagB (qclearB a) (errOf (qOk a)) = flagB c 2]) (by kernel_rfl) ⟨h0, h1, trivial⟩ rfl rfl
theorem qsmall_fn (a : B32) (hp : Holds [BOk a]) : FnOk Try.prog 43 [cB32.enc a] (flagZ (qsmallF a) (errOf (qOk a))) := by
  unfold qsmallF
  cases h : qOk a with
  | true => exact qsmall_walk1 a (qclearB a) hp.1 (by rw [h]; rfl)
  | false => exact qsmall_walk2 a (qclearB a) hp.1 (by rw [h]; rfl)
noncomputable def qsmall_con : Con Try.prog := con1 43 Try.f43 Try.func43 (by kernel_rfl) (by kernel_rfl) (cB32) (fun a => flagZ (qsmallF a) (errOf (qOk a))) (fun a => [BOk a]) (fun _ => rfl) (fun a h => qsmall_fn a h)
end Go.Proofs.Ytmfobbdgmedhdaa

/- Package point: a point taken so many times, and the calls on bytes. -/
import Derived.Test.YtmfobbdgmedhdaaPointP
namespace Go.Proofs.Ytmfobbdgmedhdaa
open Go Go.Eng
set_option linter.unusedVariables false
set_option maxRecDepth 100000

def tabL' {α : Type} (f : Nat → α) : Nat → List α
  | 0 => []
  | n + 1 => f n :: tabL' f n
def tabR' {α : Type} (f : Nat → α) : Nat → List α
  | 0 => []
  | n + 1 => f n :: tabR' f n
theorem tab_get' {α : Type} {f g : Nat → α} : ∀ {n : Nat}, tabL' f n = tabR' g n → ∀ j, j < n → f j = g j
  | 0, _, j, hj => by omega
  | n + 1, h, j, hj => by
    simp only [tabL', tabR', List.cons.injEq] at h
    by_cases hjn : j = n
    · subst hjn; exact h.1
    · exact tab_get' h.2 j (by omega)
def tabP (p : P20) : Nat → P20
  | 0 => originP
  | 1 => p
  | k + 2 => plusP (tabP p (k + 1)) p
def hiN (b : Int) : Int := b.fdiv (2 ^ 4)
def loN (b : Int) : Int := bits .and .u8 b 15
def stepD (R : Nat → P20) (q : P20) (c : Int) : P20 := plusP (dblP (dblP (dblP (dblP q)))) (R c.toNat)
def stepN (R : Nat → P20) (q : P20) (b : Int) : P20 := stepD R (stepD R q (hiN b)) (loN b)
def rowT (p : P20) (T : Nat → P20) : Nat → P20
  | 0 => originP
  | 1 => p
  | k + 2 => T (k + 2)
theorem pair_eta {α β : Type} (x : α × β) : (x.1, x.2) = x := rfl
/-- So many bytes are left to take, the last first. -/
def oftenR (R : Nat → P20) (n : B32) : Nat → P20 → P20
  | 0, q => q
  | k + 1, q => oftenR R n k (stepN R q (n.at k))
def oftenP (p : P20) (n : B32) : P20 := oftenR (rowT p (tabP p)) n 32 originP

namespace ptimes
noncomputable abbrev fn := Try.f70
noncomputable def body : Code := bodyOf fn
noncomputable def A : Code := cs1 body
noncomputable def B : Code := cs1 (cs2 body)
noncomputable def C : Code := cs1 (cs2 (cs2 body))
noncomputable def R6 : Code := cs1 (cs2 (cs2 (cs2 body)))
noncomputable def R7 : Code := cs1 (cs1 (cs2 (cs2 (cs2 (cs2 body)))))
noncomputable def L : Code := cL (cB (cs2 (cs1 (cs2 (cs2 (cs2 (cs2 body)))))))
noncomputable def H : Code := cs1 L
noncomputable def R10 : Code := cs1 (cB (cs1 (cs2 L)))
noncomputable def LI : Code := cL (cB (cs2 (cB (cs1 (cs2 L)))))
noncomputable def R9 : Code := cs2 (cs2 L)
noncomputable def D : Code := cs2 (cs2 (cs2 (cs2 (cs2 body))))
theorem body_eq : body = .seq A (.seq B (.seq C (.seq R6 (.seq (.seq R7 (.block 2 (.loop L))) D)))) := by kernel_rfl
theorem L_eq : L = .seq H (.seq (.block 3 (.seq R10 (.block 4 (.loop LI)))) R9) := by kernel_rfl
noncomputable def Γ : Cons Try.prog := [origin_con, pplus_con, pdouble_con]
def rowI (p : P20) (T : Nat → P20) (i j : Nat) : P20 := cond (Nat.blt j i) (rowT p T j) noneP
def tabRow (p : P20) (T : Nat → P20) (i : Nat) : List Atom := cP.row (rowI p T i 0) ++ (cP.row (rowI p T i 1) ++ (cP.row (rowI p T i 2) ++ (cP.row (rowI p T i 3) ++ (cP.row (rowI p T i 4) ++ (cP.row (rowI p T i 5) ++ (cP.row (rowI p T i 6) ++ (cP.row (rowI p T i 7) ++ (cP.row (rowI p T i 8) ++ (cP.row (rowI p T i 9) ++ (cP.row (rowI p T i 10) ++ (cP.row (rowI p T i 11) ++ (cP.row (rowI p T i 12) ++ (cP.row (rowI p T i 13) ++ (cP.row (rowI p T i 14) ++ (cP.row (rowI p T i 15))))))))))))))))
def mem (p : P20) (T : Nat → P20) (n : B32) (q : P20) : List Blk := [⟨true, 58, cP.row p⟩, ⟨true, 22, cB32.row n⟩, ⟨true, 58, cP.row noneP⟩, ⟨true, 94, tabRow p T 16⟩, ⟨true, 58, cP.row q⟩]
def S (p : P20) (T : Nat → P20) (n : B32) (k : Nat) (q : P20) (g : Nat → SV) : List SV × List Blk := ([cP.enc p, cB32.enc n, .o (.a (.ptr 0 0)), .o (.a (.ptr 1 0)), .o (.a (.ptr 2 0)), .o (.a (.ptr 3 0)), g 6, .o (.a (.ptr 4 0)), (cInt .i64).enc ((k : Int) - 1), g 9, g 10, g 11, g 12, g 13, g 14, g 15, g 16, g 17, g 18, g 19, g 20, g 21, g 22, g 23, g 24, g 25, g 26, g 27, g 28, g 29, g 30, g 31, g 32, g 33, g 34, g 35, g 36, g 37, g 38, g 39, g 40, g 41, g 42, g 43, g 44, g 45, g 46, g 47, g 48, g 49, g 50, g 51, g 52, g 53], mem p T n q)
def SI (p : P20) (T : Nat → P20) (n : B32) (k : Nat) (h l : Int) (j : Nat) (q : P20) (g : Nat → SV) : List SV × List Blk := ([cP.enc p, cB32.enc n, .o (.a (.ptr 0 0)), .o (.a (.ptr 1 0)), .o (.a (.ptr 2 0)), .o (.a (.ptr 3 0)), g 6, .o (.a (.ptr 4 0)), (cInt .i64).enc ((k : Int) - 1), g 9, g 10, g 11, g 12, g 13, g 14, g 15, g 16, g 17, g 18, g 19, g 20, g 21, g 22, g 23, g 24, g 25, g 26, g 27, g 28, g 29, g 30, g 31, g 32, g 33, g 34, g 35, g 36, g 37, g 38, .o (.g [u8 h, u8 l]), (cInt .i64).enc (j : Int), g 41, g 42, g 43, g 44, g 45, g 46, g 47, g 48, g 49, g 50, g 51, g 52, g 53], mem p T n q)
noncomputable def s0 (p : P20) (T : Nat → P20) (n : B32) : St := ⟨startT fn [cP.enc p, cB32.enc n], [], []⟩
noncomputable def s1 (p : P20) (T : Nat → P20) (n : B32) : St := outS Γ tys 100 A (s0 p T n)
noncomputable def R2 : Code := cs1 C
noncomputable def L1 : Code := cL (cB (cs2 C))
theorem C_eq : C = .seq R2 (.block 0 (.loop L1)) := by kernel_rfl
def S1 (p : P20) (T : Nat → P20) (n : B32) (i : Nat) (g : Nat → SV) : List SV × List Blk := ([cP.enc p, cB32.enc n, .o (.a (.ptr 0 0)), .o (.a (.ptr 1 0)), .o (.a (.ptr 2 0)), .o (.a (.ptr 3 0)), (cInt .i64).enc (i : Int), g 7, g 8, g 9, g 10, g 11, g 12, g 13, g 14, g 15, g 16, g 17, g 18, g 19, g 20, g 21, g 22, g 23, g 24, g 25, g 26, g 27, g 28, g 29, g 30, g 31, g 32, g 33, g 34, g 35, g 36, g 37, g 38, g 39, g 40, g 41, g 42, g 43, g 44, g 45, g 46, g 47, g 48, g 49, g 50, g 51, g 52, g 53], [⟨true, 58, cP.row p⟩, ⟨true, 22, cB32.row n⟩, ⟨true, 58, cP.row noneP⟩, ⟨true, 94, tabRow p T i⟩])
noncomputable def st1 (p : P20) (T : Nat → P20) (n : B32) (i : Nat) (g : Nat → SV) (o : Orc) : St := ⟨(S1 p T n i g).1, (S1 p T n i g).2, o⟩
noncomputable def s2 (p : P20) (T : Nat → P20) (n : B32) : St := outS Γ tys 100 B (s1 p T n)
theorem preA (p : P20) (T : Nat → P20) (n : B32) : exec Γ tys 100 A (s0 p T n) = some (.normal, s1 p T n, []) := by kernel_rfl
theorem preB (p : P20) (T : Nat → P20) (n : B32) : exec Γ tys 100 B (s1 p T n) = some (.normal, ⟨(s2 p T n).tm, (s2 p T n).mem, []⟩, []) := by kernel_rfl
theorem pre2 (p : P20) (T : Nat → P20) (n : B32) : exec Γ tys 100 R2 ⟨(s2 p T n).tm, (s2 p T n).mem, []⟩ = some (.normal, st1 p T n 2 (outT Γ tys 100 R2 (s2 p T n)) [], []) := by kernel_rfl
theorem rows (p : P20) (T : Nat → P20) (n : B32) (g : Nat → SV) : tabL' (fun i => exec Γ tys 100 L1 (st1 p T n (i + 2) g [(24, [.s (cP.enc (T (i + 2)))])])) 14 = tabR' (fun i => some (.normal, st1 p T n (i + 3) (outT Γ tys 100 L1 (st1 p T n (i + 2) g [(24, [.s (cP.enc (T (i + 2)))])])) [(24, [])], [cP.enc (plusP (rowT p T (i + 1)) p) = cP.enc (T (i + 2))])) 14 := by kernel_rfl
theorem rows0 (p : P20) (T : Nat → P20) (n : B32) (g : Nat → SV) : exec Γ tys 100 L1 (st1 p T n 16 g []) = some (.exit 0, st1 p T n 16 (outT Γ tys 100 L1 (st1 p T n 16 g [])) [], []) := by kernel_rfl
noncomputable def s4 (p : P20) (T : Nat → P20) (n : B32) (g : Nat → SV) : St := outS Γ tys 100 R6 (st1 p T n 16 g [])
theorem pre6 (p : P20) (T : Nat → P20) (n : B32) (g : Nat → SV) : exec Γ tys 100 R6 (st1 p T n 16 g []) = some (.normal, ⟨(s4 p T n g).tm, (s4 p T n g).mem, []⟩, []) := by kernel_rfl
noncomputable def g0 (p : P20) (T : Nat → P20) (n : B32) (g : Nat → SV) : Nat → SV := outT Γ tys 100 R7 (s4 p T n g)
theorem pre7 (p : P20) (T : Nat → P20) (n : B32) (g : Nat → SV) : exec Γ tys 100 R7 ⟨(s4 p T n g).tm, (s4 p T n g).mem, []⟩ = some (.normal, ⟨(S p T n 32 originP (g0 p T n g)).1, (S p T n 32 originP (g0 p T n g)).2, []⟩, []) := by kernel_rfl
noncomputable def st (p : P20) (T : Nat → P20) (n : B32) (k : Nat) (q : P20) (g : Nat → SV) (o : Orc) : St := ⟨(S p T n k q g).1, (S p T n k q g).2, o⟩
noncomputable def sti (p : P20) (T : Nat → P20) (n : B32) (k : Nat) (h l : Int) (j : Nat) (q : P20) (g : Nat → SV) (o : Orc) : St := ⟨(SI p T n k h l j q g).1, (SI p T n k h l j q g).2, o⟩
theorem head1 (p : P20) (T : Nat → P20) (n : B32) (k : Nat) (q : P20) (g : Nat → SV) : exec Γ tys 100 H (st p T n k q g [(28, [true])]) = some (.normal, st p T n k q (outT Γ tys 100 H (st p T n k q g [(28, [true])])) [(28, [])], [decide ((k : Int) - 1 ≥ 0) = true]) := by kernel_rfl
theorem head0 (p : P20) (T : Nat → P20) (n : B32) (k : Nat) (q : P20) (g : Nat → SV) : exec Γ tys 100 H (st p T n k q g [(28, [false])]) = some (.exit 2, st p T n k q (outT Γ tys 100 H (st p T n k q g [(28, [false])])) [(28, [])], [decide ((k : Int) - 1 ≥ 0) = false]) := by kernel_rfl
theorem nib (p : P20) (T : Nat → P20) (n : B32) (q : P20) (g : Nat → SV) : tabL' (fun k => exec Γ tys 100 R10 (st p T n (k + 1) q g [])) 32 = tabR' (fun k => some (.normal, sti p T n (k + 1) (hiN (n.at k)) (loN (n.at k)) 0 q (outT Γ tys 100 R10 (st p T n (k + 1) q g [])) [], [])) 32 := by kernel_rfl
theorem in0 (p : P20) (T : Nat → P20) (n : B32) (k : Nat) (h l : Int) (q : P20) (g : Nat → SV) : tabL' (fun c => exec Γ tys 100 LI (sti p T n k h l 0 q g [(42, [.n c])])) 16 = tabR' (fun c => some (.normal, sti p T n k h l 1 (stepD (rowT p T) q c) (outT Γ tys 100 LI (sti p T n k h l 0 q g [(42, [.n c])])) [(42, [])], [h = (c : Int)])) 16 := by kernel_rfl
theorem in1 (p : P20) (T : Nat → P20) (n : B32) (k : Nat) (h l : Int) (q : P20) (g : Nat → SV) : tabL' (fun c => exec Γ tys 100 LI (sti p T n k h l 1 q g [(42, [.n c])])) 16 = tabR' (fun c => some (.normal, sti p T n k h l 2 (stepD (rowT p T) q c) (outT Γ tys 100 LI (sti p T n k h l 1 q g [(42, [.n c])])) [(42, [])], [l = (c : Int)])) 16 := by kernel_rfl
theorem in2 (p : P20) (T : Nat → P20) (n : B32) (k : Nat) (h l : Int) (q : P20) (g : Nat → SV) : exec Γ tys 100 LI (sti p T n k h l 2 q g []) = some (.exit 4, sti p T n k h l 2 q (outT Γ tys 100 LI (sti p T n k h l 2 q g [])) [], []) := by kernel_rfl
theorem next (p : P20) (T : Nat → P20) (n : B32) (k : Nat) (h l : Int) (q : P20) (g : Nat → SV) : exec Γ tys 100 R9 (sti p T n (k + 1) h l 2 q g [(30, [.n ((k : Int) - 1)])]) = some (.normal, st p T n k q (outT Γ tys 100 R9 (sti p T n (k + 1) h l 2 q g [(30, [.n ((k : Int) - 1)])])) [(30, [])], [IntKind.i64.wrap (((k + 1 : Nat) : Int) - 1 - 1) = (k : Int) - 1]) := by kernel_rfl
noncomputable def fin (p : P20) (T : Nat → P20) (n : B32) (q : P20) (g : Nat → SV) : St := outS Γ tys 100 D (st p T n 0 q g [])
theorem post (p : P20) (T : Nat → P20) (n : B32) (q : P20) (g : Nat → SV) : exec Γ tys 100 D (st p T n 0 q g []) = some (.ret, ⟨(fin p T n q g).tm, (fin p T n q g).mem, []⟩, []) := by kernel_rfl
theorem result (p : P20) (T : Nat → P20) (n : B32) (q : P20) (g : Nat → SV) : eRes tys (fin p T n q g).tm (fun k => (fin p T n q g).mem[k]?) fn.results.toList = some [.g (cP.row q)] := by kernel_rfl
end ptimes

def Nib (n : B32) : Prop := ∀ k, k < 32 → (0 ≤ hiN (n.at k) ∧ hiN (n.at k) < 16) ∧ (0 ≤ loN (n.at k) ∧ loN (n.at k) < 16)
theorem inner_step (p : P20) (T : Nat → P20) (n : B32) (k : Nat) (h l : Int) (q : P20) (g : Nat → SV) (hh : 0 ≤ h ∧ h < 16) (hl : 0 ≤ l ∧ l < 16) {Post : Ex → List SV → List Blk → Prop}
    (hp : ∀ g', Post .normal (ptimes.SI p T n k h l 2 (stepD (rowT p T) (stepD (rowT p T) q h) l) g').1 (ptimes.SI p T n k h l 2 (stepD (rowT p T) (stepD (rowT p T) q h) l) g').2) :
    Runs Try.prog (.block 4 (.loop ptimes.LI)) (ptimes.SI p T n k h l 0 q g).1 (ptimes.SI p T n k h l 0 q g).2 Post := by
  refine Runs.block ?_
  refine Runs.loop (fun (x : Nat × P20 × (Nat → SV)) => ptimes.SI p T n k h l x.1 x.2.1 x.2.2)
    (fun x => (x.1 = 0 ∧ x.2.1 = q) ∨ (x.1 = 1 ∧ x.2.1 = stepD (rowT p T) q h) ∨ (x.1 = 2 ∧ x.2.1 = stepD (rowT p T) (stepD (rowT p T) q h) l)) (fun x => 2 - x.1) ?_ (0, q, g) (.inl ⟨rfl, rfl⟩)
  rintro ⟨j, q', g'⟩ hx
  simp only at hx
  rcases hx with ⟨rfl, rfl⟩ | ⟨rfl, rfl⟩ | ⟨rfl, rfl⟩
  · obtain ⟨c, rfl⟩ := Int.eq_ofNat_of_zero_le hh.1
    exact Runs.of_exec tys_ok mixed (tab_get' (ptimes.in0 p T n k c l q' g') c (by omega)) ⟨rfl, trivial⟩ ⟨(1, stepD (rowT p T) q' (c : Int), outT ptimes.Γ tys 100 ptimes.LI (ptimes.sti p T n k (c : Int) l 0 q' g' [(42, [.n (c : Int)])])), pair_eta _, .inr (.inl ⟨rfl, rfl⟩), by simp only; omega⟩
  · obtain ⟨c, rfl⟩ := Int.eq_ofNat_of_zero_le hl.1
    exact Runs.of_exec tys_ok mixed (tab_get' (ptimes.in1 p T n k h c _ g') c (by omega)) ⟨rfl, trivial⟩ ⟨(2, stepD (rowT p T) (stepD (rowT p T) q h) (c : Int), outT ptimes.Γ tys 100 ptimes.LI (ptimes.sti p T n k h (c : Int) 1 (stepD (rowT p T) q h) g' [(42, [.n (c : Int)])])), pair_eta _, .inr (.inr ⟨rfl, rfl⟩), by simp only; omega⟩
  · exact Runs.of_exec tys_ok mixed (ptimes.in2 p T n k h l _ g') trivial (hp _)

theorem tabP_step (p : P20) (i : Nat) : plusP (rowT p (tabP p) (i + 1)) p = tabP p (i + 2) := by
  cases i with
  | zero => rw [rowT, tabP, tabP]
  | succ i => rw [rowT, tabP, tabP, tabP]

theorem rows_run (p : P20) (n : B32) (g : Nat → SV) {Post : Ex → List SV → List Blk → Prop} (hp : ∀ g', Post .normal (ptimes.S1 p (tabP p) n 16 g').1 (ptimes.S1 p (tabP p) n 16 g').2) :
    Runs Try.prog (.block 0 (.loop ptimes.L1)) (ptimes.S1 p (tabP p) n 2 g).1 (ptimes.S1 p (tabP p) n 2 g).2 Post := by
  refine Runs.block ?_
  refine Runs.loop (fun (x : Nat × (Nat → SV)) => ptimes.S1 p (tabP p) n x.1 x.2) (fun x => 2 ≤ x.1 ∧ x.1 ≤ 16) (fun x => 16 - x.1) ?_ (2, g) ⟨Nat.le_refl 2, by simp⟩
  rintro ⟨i, g⟩ ⟨hi2, hi⟩
  simp only at hi2 hi
  obtain ⟨i, rfl⟩ : ∃ j, i = j + 2 := ⟨i - 2, by omega⟩
  by_cases hlt : i < 14
  · exact Runs.of_exec tys_ok mixed (tab_get' (ptimes.rows p (tabP p) n g) i hlt) ⟨congrArg cP.enc (tabP_step p i), trivial⟩
      ⟨(i + 3, outT ptimes.Γ tys 100 ptimes.L1 (ptimes.st1 p (tabP p) n (i + 2) g [(24, [.s (cP.enc (tabP p (i + 2)))])])), pair_eta _, ⟨by simp only; omega, by simp only; omega⟩, by simp only; omega⟩
  · obtain rfl : i = 14 := by omega
    exact Runs.of_exec tys_ok mixed (ptimes.rows0 p (tabP p) n g) trivial (hp _)

theorem round_run (p : P20) (n : B32) (k : Nat) (q : P20) (g : Nat → SV) (hk : k < 32) (hb : (0 ≤ hiN (n.at k) ∧ hiN (n.at k) < 16) ∧ (0 ≤ loN (n.at k) ∧ loN (n.at k) < 16)) {Post : Ex → List SV → List Blk → Prop}
    (hp : ∀ g', Post .normal (ptimes.S p (tabP p) n k (stepN (rowT p (tabP p)) q (n.at k)) g').1 (ptimes.S p (tabP p) n k (stepN (rowT p (tabP p)) q (n.at k)) g').2) :
    Runs Try.prog ptimes.L (ptimes.S p (tabP p) n (k + 1) q g).1 (ptimes.S p (tabP p) n (k + 1) q g).2 Post := by
  rw [ptimes.L_eq]
  refine Runs.seq (Runs.of_exec tys_ok mixed (ptimes.head1 p (tabP p) n (k + 1) q g) ⟨by simp, trivial⟩ ?_)
  refine Runs.seq (Runs.block (Runs.seq (Runs.of_exec tys_ok mixed (tab_get' (ptimes.nib p (tabP p) n q _) k hk) trivial ?_)))
  refine inner_step p (tabP p) n (k + 1) (hiN (n.at k)) (loN (n.at k)) q _ hb.1 hb.2 fun g' => ?_
  show Runs Try.prog ptimes.R9 _ _ _
  exact Runs.of_exec tys_ok mixed (ptimes.next p (tabP p) n k _ _ _ g') ⟨by rw [IntKind.wrap_i64]; omega, trivial⟩ (hp _)

theorem last_run (p : P20) (n : B32) (q : P20) (g : Nat → SV) : Runs Try.prog ptimes.D (ptimes.S p (tabP p) n 0 q g).1 (ptimes.S p (tabP p) n 0 q g).2 (Go.Eng.Ends tys ptimes.fn (cP.enc q)) :=
  Runs.of_exec tys_ok mixed (ptimes.post p (tabP p) n q g) trivial (Ends.ret (ptimes.result p (tabP p) n q g) rfl)

theorem outer_run (p : P20) (n : B32) (hn : Nib n) (g : Nat → SV) {Post : Ex → List SV → List Blk → Prop} (hp : ∀ g', Post .normal (ptimes.S p (tabP p) n 0 (oftenP p n) g').1 (ptimes.S p (tabP p) n 0 (oftenP p n) g').2) :
    Runs Try.prog (.block 2 (.loop ptimes.L)) (ptimes.S p (tabP p) n 32 originP g).1 (ptimes.S p (tabP p) n 32 originP g).2 Post := by
  refine Runs.block ?_
  refine Runs.loop (fun (x : Nat × P20 × (Nat → SV)) => ptimes.S p (tabP p) n x.1 x.2.1 x.2.2) (fun x => x.1 ≤ 32 ∧ oftenR (rowT p (tabP p)) n x.1 x.2.1 = oftenP p n) (fun x => x.1) ?_ (32, originP, g) ⟨Nat.le_refl 32, by rw [oftenP]⟩
  rintro ⟨k, q, g⟩ ⟨hk, hr⟩
  simp only at hk hr
  cases k with
  | zero =>
    rw [ptimes.L_eq]
    refine Runs.seq (Runs.of_exec tys_ok mixed (ptimes.head0 p (tabP p) n 0 q g) ⟨by decide, trivial⟩ ?_)
    rw [oftenR] at hr
    subst hr
    exact hp _
  | succ k =>
    refine round_run p n k q g (by omega) (hn k (by omega)) fun g' => ?_
    exact ⟨(k, stepN (rowT p (tabP p)) q (n.at k), g'), pair_eta _, ⟨by simp only; omega, by rw [oftenR] at hr; exact hr⟩, Nat.lt_succ_self _⟩

theorem ptimes_fn (p : P20) (n : B32) (hpre : Holds [Nib n]) : FnOk Try.prog 70 [cP.enc p, cB32.enc n] (cP.enc (oftenP p n)) := by
  refine FnOk.of_runs tys_ok Try.func70 (c := ptimes.body) (by kernel_rfl) ?_ rfl rfl
  rw [ptimes.body_eq]
  refine Runs.seq (Runs.of_exec tys_ok mixed (ptimes.preA p (tabP p) n) trivial ?_)
  refine Runs.seq (Runs.of_exec tys_ok mixed (ptimes.preB p (tabP p) n) trivial ?_)
  rw [ptimes.C_eq]
  refine Runs.seq (Runs.seq (Runs.of_exec tys_ok mixed (ptimes.pre2 p (tabP p) n) trivial ?_))
  refine rows_run p n _ fun g => ?_
  show Runs Try.prog (.seq ptimes.R6 (.seq (.seq ptimes.R7 (.block 2 (.loop ptimes.L))) ptimes.D)) _ _ _
  refine Runs.seq (Runs.of_exec tys_ok mixed (ptimes.pre6 p (tabP p) n _) trivial ?_)
  refine Runs.seq (Runs.seq (Runs.of_exec tys_ok mixed (ptimes.pre7 p (tabP p) n _) trivial ?_))
  refine outer_run p n hpre.1 _ fun g' => ?_
  exact last_run p n _ g'
def ptimes_con : Con Try.prog := con2 70 Try.f70 Try.func70 (by kernel_rfl) (by kernel_rfl) (cP) (cB32) (fun p n => cP.enc (oftenP p n)) (fun p n => [Nib n]) (fun _ _ => rfl) (fun p n h => ptimes_fn p n h)

/-! ### The calls on bytes -/
def retB (ok : Bool) (b : B32) : SV := match ok with
  | true => flagB b 0
  | false => flagB zeroB 2
def errOf (ok : Bool) : Int := match ok with
  | true => 0
  | false => 2
theorem pcheck_fn (a : B32) : FnOk Try.prog 33 [cB32.enc a] ((cInt .i64).enc (errOf (decOk a))) := by
  cases h : decOk a with
  | true => exact FnOk.of_out (Γ := [pof_con]) tys_ok mixed Try.func33 (n := 100) (orc := [(9, [true])]) (cs := [decOk a = true]) (by kernel_rfl) ⟨h, trivial⟩ rfl rfl
  | false => exact FnOk.of_out (Γ := [pof_con]) tys_ok mixed Try.func33 (n := 100) (orc := [(9, [false])]) (cs := [decOk a = false]) (by kernel_rfl) ⟨h, trivial⟩ rfl rfl
def pcheck_con : Con Try.prog := con1 33 Try.f33 Try.func33 (by kernel_rfl) (by kernel_rfl) (cB32) (fun a => (cInt .i64).enc (errOf (decOk a))) (fun _ => []) (fun _ => rfl) (fun a _ => pcheck_fn a)
def padd0 (a b : B32) : B32 := encP (plusP (decP a) (decP b))
def paddB (a b : B32) : B32 := match decOk a && decOk b with
  | true => padd0 a b
  | false => zeroB
theorem padd_fn (a b : B32) : FnOk Try.prog 32 [cB32.enc a, cB32.enc b] (flagB (paddB a b) (errOf (decOk a && decOk b))) := by
  unfold paddB
  cases h : decOk a with
  | true =>
    cases h' : decOk b with
    | true => exact FnOk.of_out (Γ := [pof_con, pplus_con, pbytes_con]) tys_ok mixed Try.func32 (n := 100) (orc := [(14, [true]), (19, [true])]) (cs := [decOk a = true, decOk b = true]) (by kernel_rfl) ⟨h, h', trivial⟩ rfl rfl
    | false => exact FnOk.of_out (Γ := [pof_con, pplus_con, pbytes_con]) tys_ok mixed Try.func32 (n := 100) (orc := [(14, [true]), (19, [false])]) (cs := [decOk a = true, decOk b = false]) (by kernel_rfl) ⟨h, h', trivial⟩ rfl rfl
  | false =>
    cases h' : decOk b with
    | true => exact FnOk.of_out (Γ := [pof_con, pplus_con, pbytes_con]) tys_ok mixed Try.func32 (n := 100) (orc := [(14, [false]), (19, [true])]) (cs := [decOk a = false, decOk b = true]) (by kernel_rfl) ⟨h, h', trivial⟩ rfl rfl
    | false => exact FnOk.of_out (Γ := [pof_con, pplus_con, pbytes_con]) tys_ok mixed Try.func32 (n := 100) (orc := [(14, [false]), (19, [false])]) (cs := [decOk a = false, decOk b = false]) (by kernel_rfl) ⟨h, h', trivial⟩ rfl rfl
def padd_con : Con Try.prog := con2 32 Try.f32 Try.func32 (by kernel_rfl) (by kernel_rfl) (cB32) (cB32) (fun a b => flagB (paddB a b) (errOf (decOk a && decOk b))) (fun _ _ => []) (fun _ _ => rfl) (fun a b _ => padd_fn a b)
def pnegB (a : B32) : B32 := match decOk a with
  | true => encP (negP (decP a))
  | false => zeroB
theorem pneg_fn (a : B32) : FnOk Try.prog 27 [cB32.enc a] (flagB (pnegB a) (errOf (decOk a))) := by
  unfold pnegB
  cases h : decOk a with
  | true => exact FnOk.of_out (Γ := [pof_con, pminus_con, pbytes_con]) tys_ok mixed Try.func27 (n := 100) (orc := [(10, [true])]) (cs := [decOk a = true]) (by kernel_rfl) ⟨h, trivial⟩ rfl rfl
  | false => exact FnOk.of_out (Γ := [pof_con, pminus_con, pbytes_con]) tys_ok mixed Try.func27 (n := 100) (orc := [(10, [false])]) (cs := [decOk a = false]) (by kernel_rfl) ⟨h, trivial⟩ rfl rfl
def pneg_con : Con Try.prog := con1 27 Try.f27 Try.func27 (by kernel_rfl) (by kernel_rfl) (cB32) (fun a => flagB (pnegB a) (errOf (decOk a))) (fun _ => []) (fun _ => rfl) (fun a _ => pneg_fn a)
def pclearB (a : B32) : B32 := match decOk a with
  | true => encP (clrP (decP a))
  | false => zeroB
theorem pclear_fn (a : B32) : FnOk Try.prog 37 [cB32.enc a] (flagB (pclearB a) (errOf (decOk a))) := by
  unfold pclearB
  cases h : decOk a with
  | true => exact FnOk.of_out (Γ := [pof_con, pcleared_con, pbytes_con]) tys_ok mixed Try.func37 (n := 100) (orc := [(10, [true])]) (cs := [decOk a = true]) (by kernel_rfl) ⟨h, trivial⟩ rfl rfl
  | false => exact FnOk.of_out (Γ := [pof_con, pcleared_con, pbytes_con]) tys_ok mixed Try.func37 (n := 100) (orc := [(10, [false])]) (cs := [decOk a = false]) (by kernel_rfl) ⟨h, trivial⟩ rfl rfl
def pclear_con : Con Try.prog := con1 37 Try.f37 Try.func37 (by kernel_rfl) (by kernel_rfl) (cB32) (fun a => flagB (pclearB a) (errOf (decOk a))) (fun _ => []) (fun _ => rfl) (fun a _ => pclear_fn a)
def pmulB (n a : B32) : B32 := match decOk a with
  | true => encP (oftenP (decP a) n)
  | false => zeroB
theorem pmul_fn (n a : B32) (hp : Holds [Nib n]) : FnOk Try.prog 34 [cB32.enc n, cB32.enc a] (flagB (pmulB n a) (errOf (decOk a))) := by
  unfold pmulB
  cases h : decOk a with
  | true => exact FnOk.of_out (Γ := [pof_con, ptimes_con, pbytes_con]) tys_ok mixed Try.func34 (n := 100) (orc := [(12, [true])]) (cs := [decOk a = true, Nib n]) (by kernel_rfl) ⟨h, hp.1, trivial⟩ rfl rfl
  | false => exact FnOk.of_out (Γ := [pof_con, ptimes_con, pbytes_con]) tys_ok mixed Try.func34 (n := 100) (orc := [(12, [false])]) (cs := [decOk a = false]) (by kernel_rfl) ⟨h, trivial⟩ rfl rfl
def pmul_con : Con Try.prog := con2 34 Try.f34 Try.func34 (by kernel_rfl) (by kernel_rfl) (cB32) (cB32) (fun n a => flagB (pmulB n a) (errOf (decOk a))) (fun n a => [Nib n]) (fun _ _ => rfl) (fun n a h => pmul_fn n a h)
def pbaseB (n : B32) : B32 := encP (oftenP baseP n)
theorem pbase_fn (n : B32) (hp : Holds [Nib n]) : FnOk Try.prog 30 [cB32.enc n] (cB32.enc (pbaseB n)) :=
  FnOk.of_out (Γ := [pointB_con, ptimes_con, pbytes_con]) tys_ok mixed Try.func30 (n := 100) (orc := []) (cs := [Nib n]) (by kernel_rfl) hp rfl rfl
def pbase_con : Con Try.prog := con1 30 Try.f30 Try.func30 (by kernel_rfl) (by kernel_rfl) (cB32) (fun n => cB32.enc (pbaseB n)) (fun n => [Nib n]) (fun _ => rfl) (fun n h => pbase_fn n h)
def psmallF (a : B32) : Bool := match decOk a with
  | true => eqB (encP (clrP (decP a))) zeroPt
  | false => false
def flagZ (b : Bool) (e : Int) : SV := .t [.a (bool1 b), .a (int1 .i64 e)]
theorem psmall_fn (a : B32) : FnOk Try.prog 38 [cB32.enc a] (flagZ (psmallF a) (errOf (decOk a))) := by
  unfold psmallF
  cases h : decOk a with
  | true => exact FnOk.of_out (Γ := [pof_con, pcleared_con, porigin_con]) tys_ok mixed Try.func38 (n := 100) (orc := [(10, [true])]) (cs := [decOk a = true]) (by kernel_rfl) ⟨h, trivial⟩ rfl rfl
  | false => exact FnOk.of_out (Γ := [pof_con, pcleared_con, porigin_con]) tys_ok mixed Try.func38 (n := 100) (orc := [(10, [false])]) (cs := [decOk a = false]) (by kernel_rfl) ⟨h, trivial⟩ rfl rfl
def psmall_con : Con Try.prog := con1 38 Try.f38 Try.func38 (by kernel_rfl) (by kernel_rfl) (cB32) (fun a => flagZ (psmallF a) (errOf (decOk a))) (fun _ => []) (fun _ => rfl) (fun a _ => psmall_fn a)
end Go.Proofs.Ytmfobbdgmedhdaa

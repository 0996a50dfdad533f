/- What the functions of package field compute, word for word, and that they do. -/
import Derived.Test.YtmfobbdgmedhdaaTy
import Derived.Test.YtmfobbdgmedhdaaCod
import Derived.Laws.Externs
namespace Go.Proofs.Ytmfobbdgmedhdaa
open Go Go.Eng
set_option linter.unusedVariables false
set_option maxRecDepth 100000

/-! ### math/bits -/
def add64S (x y c : Int) : Int := Int.ofNat ((x.toNat + y.toNat + c.toNat) % 18446744073709551616)
def add64C (x y c : Int) : Int := Int.ofNat ((x.toNat + y.toNat + c.toNat) / 18446744073709551616)
def sub64D' (x y c : Int) : Int := Int.ofNat ((x.toNat + 18446744073709551616 - y.toNat - c.toNat) % 18446744073709551616)
/-- r, but stuck where x is not known: so the kernel does not reckon with parts of r. -/
def blk (x r : Int) : Int := match x with
  | .ofNat _ => r
  | .negSucc _ => r
theorem blk_eq (x r : Int) : blk x r = r := by cases x <;> rfl
def sub64D (x y c : Int) : Int := blk x (sub64D' x y c)
theorem sub64D_eq (x y c : Int) : sub64D' x y c = sub64D x y c := (blk_eq _ _).symm
def sub64B (x y c : Int) : Int := Int.ofNat (if x.toNat < y.toNat + c.toNat then 1 else 0)
def pairU (a b : Int) : SV := .t [.a (u64 a), .a (u64 b)]
def m32 : Int := 4294967295
def mulHi (x y : Int) : Int :=
  addU (addU (mulU (shrU x 32) (shrU y 32)) (shrU (addU (mulU (shrU x 32) (andU y m32)) (shrU (mulU (andU x m32) (andU y m32)) 32)) 32))
    (shrU (addU (andU (addU (mulU (shrU x 32) (andU y m32)) (shrU (mulU (andU x m32) (andU y m32)) 32)) m32) (mulU (andU x m32) (shrU y 32))) 32)
theorem mul64_fn (x y : Int) : FnOk Try.prog 99 [(cInt .u64).enc x, (cInt .u64).enc y] (pairU (mulHi x y) (mulU x y)) :=
  FnOk.of_out (Γ := []) tys_ok mixed Try.func99 (n := 100) (orc := []) (cs := []) (by kernel_rfl) trivial rfl rfl
def mul64_con : Con Try.prog := con2 99 Try.f99 Try.func99 (by kernel_rfl) (by kernel_rfl) (cInt .u64) (cInt .u64) (fun x y => pairU (mulHi x y) (mulU x y)) (fun _ _ => []) (fun _ _ => rfl) (fun x y _ => mul64_fn x y)

theorem carry_cases {c : Nat} (h : c ≤ 1) : c = 0 ∨ c = 1 := by omega
def ext3 (f : FuncId) (F : Int → Int → Int → SV) (ids : ∀ a b c, (F a b c).ids = []) (run : ∀ a b c, c.toNat ≤ 1 → ∀ (β : Nat → Nat) (w : World), (callFunc f #[.int .u64 a, .int .u64 b, .int .u64 c]).run Try.prog w = .ok (.value ((F a b c).den β)) w) : Con Try.prog :=
  Con.ext f (fun
    | [x, y, z] => match (cInt .u64).dec x, (cInt .u64).dec y, (cInt .u64).dec z with
      | some a, some b, some c => some (F a b c, [c.toNat ≤ 1])
      | _, _, _ => none
    | _ => none) fun args r c h => by
    split at h <;> try cases h
    split at h <;> try cases h
    rename_i ha hb hc
    rw [← (cInt .u64).ok _ _ ha, ← (cInt .u64).ok _ _ hb, ← (cInt .u64).ok _ _ hc]
    exact ⟨ids _ _ _, fun hh β w => run _ _ _ hh.1 β w⟩
def sub64Entry : Array Value → Sem Value := fun args => do
  let (x, y, b) ← Extern.MathBitsCarry.three "Sub64" args
  pure (Extern.MathBitsCarry.pair ((x + Extern.MathBitsCarry.m64 - y - b) % Extern.MathBitsCarry.m64) (if x < y + b then 1 else 0))
theorem run_add64' (x y : Int) : ∀ (c : Int), c.toNat ≤ 1 → ∀ (w : World), (add64Entry #[.int .u64 x, .int .u64 y, .int .u64 c]).run Try.prog w = .ok (.tuple #[.int .u64 (add64S x y c), .int .u64 (add64C x y c)]) w
  | .ofNat 0, _, w => rfl
  | .ofNat 1, _, w => rfl
  | .ofNat (n + 2), h, w => absurd h (by show ¬ (n + 2 ≤ 1); omega)
  | .negSucc m, _, w => rfl
theorem run_sub64' (x y : Int) : ∀ (c : Int), c.toNat ≤ 1 → ∀ (w : World), (sub64Entry #[.int .u64 x, .int .u64 y, .int .u64 c]).run Try.prog w = .ok (.tuple #[.int .u64 (sub64D' x y c), .int .u64 (sub64B x y c)]) w
  | .ofNat 0, _, w => rfl
  | .ofNat 1, _, w => rfl
  | .ofNat (n + 2), h, w => absurd h (by show ¬ (n + 2 ≤ 1); omega)
  | .negSucc m, _, w => rfl
def add64_con : Con Try.prog := ext3 97 (fun x y c => pairU (add64S x y c) (add64C x y c)) (fun _ _ _ => rfl) fun x y c hc β w => by
  rw [run_callFunc_extern Try.func97 (by kernel_rfl) (by kernel_rfl) (by kernel_rfl) (e := add64Entry) (by kernel_rfl), run_add64' x y c hc]
  rfl
def sub64_con : Con Try.prog := ext3 109 (fun x y c => pairU (sub64D x y c) (sub64B x y c)) (fun _ _ _ => rfl) fun x y c hc β w => by
  rw [run_callFunc_extern Try.func109 (by kernel_rfl) (by kernel_rfl) (by kernel_rfl) (e := sub64Entry) (by kernel_rfl), run_sub64' x y c hc, sub64D_eq]
  rfl

/-! ### Element -/
def m51 : Int := 2251799813685247
def oneE : E5 := ⟨1, 0, 0, 0, 0⟩
def rootM1E : E5 := ⟨1718705420411056, 234908883556509, 2233514472574048, 2117202627021982, 765476049583133⟩
def carriedF (e : E5) : E5 :=
  ⟨addU (andU e.l0 m51) (mulU 19 (shrU e.l4 51)), addU (andU e.l1 m51) (shrU e.l0 51), addU (andU e.l2 m51) (shrU e.l1 51), addU (andU e.l3 m51) (shrU e.l2 51), addU (andU e.l4 m51) (shrU e.l3 51)⟩
theorem carried_fn (e : E5) : FnOk Try.prog 83 [cE5.enc e] (cE5.enc (carriedF e)) :=
  FnOk.of_out (Γ := []) tys_ok mixed Try.func83 (n := 100) (orc := []) (cs := []) (by kernel_rfl) trivial rfl rfl
def carried_con : Con Try.prog := con1 83 Try.f83 Try.func83 (by kernel_rfl) (by kernel_rfl) cE5 (fun e => cE5.enc (carriedF e)) (fun _ => []) (fun _ => rfl) (fun e _ => carried_fn e)

def plusF (e f : E5) : E5 := carriedF ⟨addU e.l0 f.l0, addU e.l1 f.l1, addU e.l2 f.l2, addU e.l3 f.l3, addU e.l4 f.l4⟩
theorem plus_fn (e f : E5) : FnOk Try.prog 49 [cE5.enc e, cE5.enc f] (cE5.enc (plusF e f)) :=
  FnOk.of_out (Γ := [carried_con]) tys_ok mixed Try.func49 (n := 100) (orc := []) (cs := []) (by kernel_rfl) trivial rfl rfl
def plus_con : Con Try.prog := con2 49 Try.f49 Try.func49 (by kernel_rfl) (by kernel_rfl) cE5 cE5 (fun e f => cE5.enc (plusF e f)) (fun _ _ => []) (fun _ _ => rfl) (fun e f _ => plus_fn e f)

def minusF (e f : E5) : E5 := carriedF ⟨subU (addU e.l0 4503599627370458) f.l0, subU (addU e.l1 4503599627370494) f.l1, subU (addU e.l2 4503599627370494) f.l2, subU (addU e.l3 4503599627370494) f.l3, subU (addU e.l4 4503599627370494) f.l4⟩
theorem minus_fn (e f : E5) : FnOk Try.prog 52 [cE5.enc e, cE5.enc f] (cE5.enc (minusF e f)) :=
  FnOk.of_out (Γ := [carried_con]) tys_ok mixed Try.func52 (n := 100) (orc := []) (cs := []) (by kernel_rfl) trivial rfl rfl
def minus_con : Con Try.prog := con2 52 Try.f52 Try.func52 (by kernel_rfl) (by kernel_rfl) cE5 cE5 (fun e f => cE5.enc (minusF e f)) (fun _ _ => []) (fun _ _ => rfl) (fun e f _ => minus_fn e f)

def addW (w : W2) (a b : Int) : W2 := ⟨addU (addU w.hi (mulHi a b)) (add64C (mulU a b) w.lo 0), add64S (mulU a b) w.lo 0⟩
theorem addW_fn (w : W2) (a b : Int) : FnOk Try.prog 84 [cW2.enc w, (cInt .u64).enc a, (cInt .u64).enc b] (cW2.enc (addW w a b)) :=
  FnOk.of_out (Γ := [mul64_con, add64_con]) tys_ok mixed Try.func84 (n := 100) (orc := []) (cs := [(0 : Int).toNat ≤ 1]) (by kernel_rfl) ⟨by decide, trivial⟩ rfl rfl
def addW_con : Con Try.prog := con3 84 Try.f84 Try.func84 (by kernel_rfl) (by kernel_rfl) cW2 (cInt .u64) (cInt .u64) (fun w a b => cW2.enc (addW w a b)) (fun _ _ _ => []) (fun _ _ _ => rfl) (fun w a b _ => addW_fn w a b)

def shiftedW (w : W2) : Int := orU (shlU w.hi 13) (shrU w.lo 51)
theorem shifted_fn (w : W2) : FnOk Try.prog 85 [cW2.enc w] ((cInt .u64).enc (shiftedW w)) :=
  FnOk.of_out (Γ := []) tys_ok mixed Try.func85 (n := 100) (orc := []) (cs := []) (by kernel_rfl) trivial rfl rfl
def shifted_con : Con Try.prog := con1 85 Try.f85 Try.func85 (by kernel_rfl) (by kernel_rfl) cW2 (fun w => (cInt .u64).enc (shiftedW w)) (fun _ => []) (fun _ => rfl) (fun w _ => shifted_fn w)

def w0 : W2 := ⟨0, 0⟩
def timesR0 (e f : E5) : W2 := addW (addW (addW (addW (addW w0 e.l0 f.l0) e.l1 (mulU 19 f.l4)) e.l2 (mulU 19 f.l3)) e.l3 (mulU 19 f.l2)) e.l4 (mulU 19 f.l1)
def timesR1 (e f : E5) : W2 := addW (addW (addW (addW (addW w0 e.l0 f.l1) e.l1 f.l0) e.l2 (mulU 19 f.l4)) e.l3 (mulU 19 f.l3)) e.l4 (mulU 19 f.l2)
def timesR2 (e f : E5) : W2 := addW (addW (addW (addW (addW w0 e.l0 f.l2) e.l1 f.l1) e.l2 f.l0) e.l3 (mulU 19 f.l4)) e.l4 (mulU 19 f.l3)
def timesR3 (e f : E5) : W2 := addW (addW (addW (addW (addW w0 e.l0 f.l3) e.l1 f.l2) e.l2 f.l1) e.l3 f.l0) e.l4 (mulU 19 f.l4)
def timesR4 (e f : E5) : W2 := addW (addW (addW (addW (addW w0 e.l0 f.l4) e.l1 f.l3) e.l2 f.l2) e.l3 f.l1) e.l4 f.l0
def timesF (e f : E5) : E5 := carriedF ⟨addU (andU (timesR0 e f).lo m51) (mulU 19 (shiftedW (timesR4 e f))), addU (andU (timesR1 e f).lo m51) (shiftedW (timesR0 e f)),
  addU (andU (timesR2 e f).lo m51) (shiftedW (timesR1 e f)), addU (andU (timesR3 e f).lo m51) (shiftedW (timesR2 e f)), addU (andU (timesR4 e f).lo m51) (shiftedW (timesR3 e f))⟩
theorem times_fn (e f : E5) : FnOk Try.prog 51 [cE5.enc e, cE5.enc f] (cE5.enc (timesF e f)) :=
  FnOk.of_out (Γ := [carried_con, addW_con, shifted_con]) tys_ok mixed Try.func51 (n := 100) (orc := []) (cs := []) (by kernel_rfl) trivial rfl rfl
def times_con : Con Try.prog := con2 51 Try.f51 Try.func51 (by kernel_rfl) (by kernel_rfl) cE5 cE5 (fun e f => cE5.enc (timesF e f)) (fun _ _ => []) (fun _ _ => rfl) (fun e f _ => times_fn e f)

/-! ### Out of and into 32 bytes -/
inductive At where
  | a0 | a6 | a12 | a19 | a24
def At.n : At → Int
  | .a0 => 0 | .a6 => 6 | .a12 => 12 | .a19 => 19 | .a24 => 24
def At.k : At → Nat
  | .a0 => 0 | .a6 => 6 | .a12 => 12 | .a19 => 19 | .a24 => 24
def cAt : Cod At where
  enc a := (cInt .i64).enc a.n
  dec
    | .o (.a (.v (.int .i64 n))) => if n = 0 then some .a0 else if n = 6 then some .a6 else if n = 12 then some .a12 else if n = 19 then some .a19 else if n = 24 then some .a24 else none
    | _ => none
  ok x a h := by
    split at h <;> try cases h
    split at h
    · rename_i e; cases h; subst e; rfl
    split at h
    · rename_i e; cases h; subst e; rfl
    split at h
    · rename_i e; cases h; subst e; rfl
    split at h
    · rename_i e; cases h; subst e; rfl
    split at h <;> cases h
    rename_i e; subst e; rfl
  ids _ := rfl
/-- Eight bytes from one on, the last first. -/
def word8 (b : B32) (k : Nat) : Int :=
  let s (acc : Int) (i : Nat) : Int := orU (shlU acc 8) (IntKind.u64.wrap (b.at (k + i)))
  s (s (s (s (s (s (s (s 0 7) 6) 5) 4) 3) 2) 1) 0
theorem word_fn (a : At) (b : B32) (ty : TypeId) : FnMem Try.prog 82 [cAt.enc a, .o (.a (.ptr 0 0))] [⟨false, ty, cB32.row b⟩] ((cInt .u64).enc (word8 b a.k)) := by
  cases a <;> exact FnMem.of_out (Γ := []) tys_ok mixed Try.func82 (n := 100) (orc := []) (cs := []) (by kernel_rfl) trivial rfl rfl
def word_con : Con Try.prog := conPtr 82 Try.f82 Try.func82 (by kernel_rfl) (by kernel_rfl) cAt cB32 (fun a b => (cInt .u64).enc (word8 b a.k)) (fun _ _ => []) (fun _ _ => rfl) (fun a b ty _ => word_fn a b ty)

def ofF (b : B32) : E5 :=
  ⟨addU (andU (word8 b 0) m51) (mulU 19 (IntKind.u64.wrap (b.b31.fdiv (2 ^ 7)))), andU (shrU (word8 b 6) 3) m51, andU (shrU (word8 b 12) 6) m51, andU (shrU (word8 b 19) 1) m51, andU (shrU (word8 b 24) 12) m51⟩
theorem of_fn (b : B32) : FnOk Try.prog 48 [cB32.enc b] (cE5.enc (ofF b)) :=
  FnOk.of_out (Γ := [word_con]) tys_ok mixed Try.func48 (n := 100) (orc := []) (cs := []) (by kernel_rfl) trivial rfl rfl
def of_con : Con Try.prog := con1 48 Try.f48 Try.func48 (by kernel_rfl) (by kernel_rfl) cB32 (fun b => cE5.enc (ofF b)) (fun _ => []) (fun _ => rfl) (fun b _ => of_fn b)

/-- The limbs below p, each of 51 bits. -/
def leastF (e0 : E5) : E5 :=
  let e := carriedF (carriedF e0)
  let q := shrU (addU e.l4 (shrU (addU e.l3 (shrU (addU e.l2 (shrU (addU e.l1 (shrU (addU e.l0 19) 51)) 51)) 51)) 51)) 51
  let a0 := addU e.l0 (mulU 19 q)
  let a1 := addU e.l1 (shrU a0 51)
  let a2 := addU e.l2 (shrU a1 51)
  let a3 := addU e.l3 (shrU a2 51)
  let a4 := addU e.l4 (shrU a3 51)
  ⟨andU a0 m51, andU a1 m51, andU a2 m51, andU a3 m51, andU a4 m51⟩
def wordsF (e : E5) : N4 := ⟨orU e.l0 (shlU e.l1 51), orU (shrU e.l1 13) (shlU e.l2 38), orU (shrU e.l2 26) (shlU e.l3 25), orU (shrU e.l3 39) (shlU e.l4 12)⟩
def byteOf (w : Int) (j : Nat) : Int := IntKind.u8.wrap (shrU w (8 * j))
def bytes4 (w : N4) : B32 := ⟨byteOf w.l0 0, byteOf w.l0 1, byteOf w.l0 2, byteOf w.l0 3, byteOf w.l0 4, byteOf w.l0 5, byteOf w.l0 6, byteOf w.l0 7,
  byteOf w.l1 0, byteOf w.l1 1, byteOf w.l1 2, byteOf w.l1 3, byteOf w.l1 4, byteOf w.l1 5, byteOf w.l1 6, byteOf w.l1 7,
  byteOf w.l2 0, byteOf w.l2 1, byteOf w.l2 2, byteOf w.l2 3, byteOf w.l2 4, byteOf w.l2 5, byteOf w.l2 6, byteOf w.l2 7,
  byteOf w.l3 0, byteOf w.l3 1, byteOf w.l3 2, byteOf w.l3 3, byteOf w.l3 4, byteOf w.l3 5, byteOf w.l3 6, byteOf w.l3 7⟩
def bytesF (e : E5) : B32 := bytes4 (wordsF (leastF e))
theorem bytes_fn (e : E5) : FnOk Try.prog 50 [cE5.enc e] (cB32.enc (bytesF e)) :=
  FnOk.of_out (Γ := [carried_con]) tys_ok mixed Try.func50 (n := 100) (orc := []) (cs := []) (by kernel_rfl) trivial rfl rfl
def bytes_con : Con Try.prog := con1 50 Try.f50 Try.func50 (by kernel_rfl) (by kernel_rfl) cE5 (fun e => cB32.enc (bytesF e)) (fun _ => []) (fun _ => rfl) (fun e _ => bytes_fn e)
end Go.Proofs.Ytmfobbdgmedhdaa

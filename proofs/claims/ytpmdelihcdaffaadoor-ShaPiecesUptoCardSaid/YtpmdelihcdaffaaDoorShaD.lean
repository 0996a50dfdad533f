/- Package sha2: a hash's state as a structure; contracts of the block step and of New. -/
import Derived.Test.YtpmdelihcdaffaaDoorShaC
namespace Go.Proofs.YtpmdelihcdaffaaDoor
open Go Go.Eng
set_option linter.unusedVariables false
set_option maxRecDepth 100000

structure E8 where
  b0 : Int
  b1 : Int
  b2 : Int
  b3 : Int
  b4 : Int
  b5 : Int
  b6 : Int
  b7 : Int
def E8.to (e : E8) : List Int := e.b0 :: e.b1 :: e.b2 :: e.b3 :: e.b4 :: e.b5 :: e.b6 :: e.b7 :: []
def E8.of : List Int → Option E8
  | x0 :: x1 :: x2 :: x3 :: x4 :: x5 :: x6 :: x7 :: [] => some ⟨x0, x1, x2, x3, x4, x5, x6, x7⟩
  | _ => none
theorem E8.of_to : ∀ l a, E8.of l = some a → E8.to a = l := by
  intro l a h
  unfold E8.of at h
  split at h <;> cases h
  rfl
def E8.at (e : E8) : Nat → Int
  | 0 => e.b0
  | 1 => e.b1
  | 2 => e.b2
  | 3 => e.b3
  | 4 => e.b4
  | 5 => e.b5
  | 6 => e.b6
  | _ => e.b7
def E8.mk' (f : Nat → Int) : E8 := ⟨f 0, f 1, f 2, f 3, f 4, f 5, f 6, f 7⟩
theorem E8.at_mk (f : Nat → Int) : ∀ i, i < 8 → (E8.mk' f).at i = f i
  | 0, _ => rfl
  | 1, _ => rfl
  | 2, _ => rfl
  | 3, _ => rfl
  | 4, _ => rfl
  | 5, _ => rfl
  | 6, _ => rfl
  | 7, _ => rfl
  | i + 8, h => by omega
theorem E8.ext_at {a b : E8} (h : ∀ i, i < 8 → a.at i = b.at i) : a = b := by
  have e : a = E8.mk' a.at := rfl
  have e' : b = E8.mk' b.at := rfl
  rw [e, e']
  unfold E8.mk'
  rw [h 0 (by omega), h 1 (by omega), h 2 (by omega), h 3 (by omega), h 4 (by omega), h 5 (by omega), h 6 (by omega), h 7 (by omega)]
structure B64 where
  b0 : Int
  b1 : Int
  b2 : Int
  b3 : Int
  b4 : Int
  b5 : Int
  b6 : Int
  b7 : Int
  b8 : Int
  b9 : Int
  b10 : Int
  b11 : Int
  b12 : Int
  b13 : Int
  b14 : Int
  b15 : Int
  b16 : Int
  b17 : Int
  b18 : Int
  b19 : Int
  b20 : Int
  b21 : Int
  b22 : Int
  b23 : Int
  b24 : Int
  b25 : Int
  b26 : Int
  b27 : Int
  b28 : Int
  b29 : Int
  b30 : Int
  b31 : Int
  b32 : Int
  b33 : Int
  b34 : Int
  b35 : Int
  b36 : Int
  b37 : Int
  b38 : Int
  b39 : Int
  b40 : Int
  b41 : Int
  b42 : Int
  b43 : Int
  b44 : Int
  b45 : Int
  b46 : Int
  b47 : Int
  b48 : Int
  b49 : Int
  b50 : Int
  b51 : Int
  b52 : Int
  b53 : Int
  b54 : Int
  b55 : Int
  b56 : Int
  b57 : Int
  b58 : Int
  b59 : Int
  b60 : Int
  b61 : Int
  b62 : Int
  b63 : Int
def B64.to (e : B64) : List Int := e.b0 :: e.b1 :: e.b2 :: e.b3 :: e.b4 :: e.b5 :: e.b6 :: e.b7 :: e.b8 :: e.b9 :: e.b10 :: e.b11 :: e.b12 :: e.b13 :: e.b14 :: e.b15 :: e.b16 :: e.b17 :: e.b18 :: e.b19 :: e.b20 :: e.b21 :: e.b22 :: e.b23 :: e.b24 :: e.b25 :: e.b26 :: e.b27 :: e.b28 :: e.b29 :: e.b30 :: e.b31 :: e.b32 :: e.b33 :: e.b34 :: e.b35 :: e.b36 :: e.b37 :: e.b38 :: e.b39 :: e.b40 :: e.b41 :: e.b42 :: e.b43 :: e.b44 :: e.b45 :: e.b46 :: e.b47 :: e.b48 :: e.b49 :: e.b50 :: e.b51 :: e.b52 :: e.b53 :: e.b54 :: e.b55 :: e.b56 :: e.b57 :: e.b58 :: e.b59 :: e.b60 :: e.b61 :: e.b62 :: e.b63 :: []
def B64.of : List Int → Option B64
  | x0 :: x1 :: x2 :: x3 :: x4 :: x5 :: x6 :: x7 :: x8 :: x9 :: x10 :: x11 :: x12 :: x13 :: x14 :: x15 :: x16 :: x17 :: x18 :: x19 :: x20 :: x21 :: x22 :: x23 :: x24 :: x25 :: x26 :: x27 :: x28 :: x29 :: x30 :: x31 :: x32 :: x33 :: x34 :: x35 :: x36 :: x37 :: x38 :: x39 :: x40 :: x41 :: x42 :: x43 :: x44 :: x45 :: x46 :: x47 :: x48 :: x49 :: x50 :: x51 :: x52 :: x53 :: x54 :: x55 :: x56 :: x57 :: x58 :: x59 :: x60 :: x61 :: x62 :: x63 :: [] => some ⟨x0, x1, x2, x3, x4, x5, x6, x7, x8, x9, x10, x11, x12, x13, x14, x15, x16, x17, x18, x19, x20, x21, x22, x23, x24, x25, x26, x27, x28, x29, x30, x31, x32, x33, x34, x35, x36, x37, x38, x39, x40, x41, x42, x43, x44, x45, x46, x47, x48, x49, x50, x51, x52, x53, x54, x55, x56, x57, x58, x59, x60, x61, x62, x63⟩
  | _ => none
theorem B64.of_to : ∀ l a, B64.of l = some a → B64.to a = l := by
  intro l a h
  unfold B64.of at h
  split at h <;> cases h
  rfl
def B64.at (e : B64) : Nat → Int
  | 0 => e.b0
  | 1 => e.b1
  | 2 => e.b2
  | 3 => e.b3
  | 4 => e.b4
  | 5 => e.b5
  | 6 => e.b6
  | 7 => e.b7
  | 8 => e.b8
  | 9 => e.b9
  | 10 => e.b10
  | 11 => e.b11
  | 12 => e.b12
  | 13 => e.b13
  | 14 => e.b14
  | 15 => e.b15
  | 16 => e.b16
  | 17 => e.b17
  | 18 => e.b18
  | 19 => e.b19
  | 20 => e.b20
  | 21 => e.b21
  | 22 => e.b22
  | 23 => e.b23
  | 24 => e.b24
  | 25 => e.b25
  | 26 => e.b26
  | 27 => e.b27
  | 28 => e.b28
  | 29 => e.b29
  | 30 => e.b30
  | 31 => e.b31
  | 32 => e.b32
  | 33 => e.b33
  | 34 => e.b34
  | 35 => e.b35
  | 36 => e.b36
  | 37 => e.b37
  | 38 => e.b38
  | 39 => e.b39
  | 40 => e.b40
  | 41 => e.b41
  | 42 => e.b42
  | 43 => e.b43
  | 44 => e.b44
  | 45 => e.b45
  | 46 => e.b46
  | 47 => e.b47
  | 48 => e.b48
  | 49 => e.b49
  | 50 => e.b50
  | 51 => e.b51
  | 52 => e.b52
  | 53 => e.b53
  | 54 => e.b54
  | 55 => e.b55
  | 56 => e.b56
  | 57 => e.b57
  | 58 => e.b58
  | 59 => e.b59
  | 60 => e.b60
  | 61 => e.b61
  | 62 => e.b62
  | _ => e.b63
def B64.mk' (f : Nat → Int) : B64 := ⟨f 0, f 1, f 2, f 3, f 4, f 5, f 6, f 7, f 8, f 9, f 10, f 11, f 12, f 13, f 14, f 15, f 16, f 17, f 18, f 19, f 20, f 21, f 22, f 23, f 24, f 25, f 26, f 27, f 28, f 29, f 30, f 31, f 32, f 33, f 34, f 35, f 36, f 37, f 38, f 39, f 40, f 41, f 42, f 43, f 44, f 45, f 46, f 47, f 48, f 49, f 50, f 51, f 52, f 53, f 54, f 55, f 56, f 57, f 58, f 59, f 60, f 61, f 62, f 63⟩
theorem B64.at_mk (f : Nat → Int) : ∀ i, i < 64 → (B64.mk' f).at i = f i
  | 0, _ => rfl
  | 1, _ => rfl
  | 2, _ => rfl
  | 3, _ => rfl
  | 4, _ => rfl
  | 5, _ => rfl
  | 6, _ => rfl
  | 7, _ => rfl
  | 8, _ => rfl
  | 9, _ => rfl
  | 10, _ => rfl
  | 11, _ => rfl
  | 12, _ => rfl
  | 13, _ => rfl
  | 14, _ => rfl
  | 15, _ => rfl
  | 16, _ => rfl
  | 17, _ => rfl
  | 18, _ => rfl
  | 19, _ => rfl
  | 20, _ => rfl
  | 21, _ => rfl
  | 22, _ => rfl
  | 23, _ => rfl
  | 24, _ => rfl
  | 25, _ => rfl
  | 26, _ => rfl
  | 27, _ => rfl
  | 28, _ => rfl
  | 29, _ => rfl
  | 30, _ => rfl
  | 31, _ => rfl
  | 32, _ => rfl
  | 33, _ => rfl
  | 34, _ => rfl
  | 35, _ => rfl
  | 36, _ => rfl
  | 37, _ => rfl
  | 38, _ => rfl
  | 39, _ => rfl
  | 40, _ => rfl
  | 41, _ => rfl
  | 42, _ => rfl
  | 43, _ => rfl
  | 44, _ => rfl
  | 45, _ => rfl
  | 46, _ => rfl
  | 47, _ => rfl
  | 48, _ => rfl
  | 49, _ => rfl
  | 50, _ => rfl
  | 51, _ => rfl
  | 52, _ => rfl
  | 53, _ => rfl
  | 54, _ => rfl
  | 55, _ => rfl
  | 56, _ => rfl
  | 57, _ => rfl
  | 58, _ => rfl
  | 59, _ => rfl
  | 60, _ => rfl
  | 61, _ => rfl
  | 62, _ => rfl
  | 63, _ => rfl
  | i + 64, h => by omega
theorem B64.ext_at {a b : B64} (h : ∀ i, i < 64 → a.at i = b.at i) : a = b := by
  have e : a = B64.mk' a.at := rfl
  have e' : b = B64.mk' b.at := rfl
  rw [e, e']
  unfold B64.mk'
  rw [h 0 (by omega), h 1 (by omega), h 2 (by omega), h 3 (by omega), h 4 (by omega), h 5 (by omega), h 6 (by omega), h 7 (by omega), h 8 (by omega), h 9 (by omega), h 10 (by omega), h 11 (by omega), h 12 (by omega), h 13 (by omega), h 14 (by omega), h 15 (by omega), h 16 (by omega), h 17 (by omega), h 18 (by omega), h 19 (by omega), h 20 (by omega), h 21 (by omega), h 22 (by omega), h 23 (by omega), h 24 (by omega), h 25 (by omega), h 26 (by omega), h 27 (by omega), h 28 (by omega), h 29 (by omega), h 30 (by omega), h 31 (by omega), h 32 (by omega), h 33 (by omega), h 34 (by omega), h 35 (by omega), h 36 (by omega), h 37 (by omega), h 38 (by omega), h 39 (by omega), h 40 (by omega), h 41 (by omega), h 42 (by omega), h 43 (by omega), h 44 (by omega), h 45 (by omega), h 46 (by omega), h 47 (by omega), h 48 (by omega), h 49 (by omega), h 50 (by omega), h 51 (by omega), h 52 (by omega), h 53 (by omega), h 54 (by omega), h 55 (by omega), h 56 (by omega), h 57 (by omega), h 58 (by omega), h 59 (by omega), h 60 (by omega), h 61 (by omega), h 62 (by omega), h 63 (by omega)]
structure Hs where
  h : E8
  r : B64
  n : Int
def hsRow (S : Hs) : List Atom := S.h.to.map (int1 .u32) ++ (S.r.to.map (int1 .u8) ++ [int1 .u64 S.n])
def hsOf (cs : List Atom) : Option Hs :=
  match intsOf .u32 (cs.take 8), intsOf .u8 ((cs.drop 8).take 64), intsOf .u64 (cs.drop 72) with
  | some a, some b, some [n] => match E8.of a, B64.of b with
    | some h, some r => some ⟨h, r, n⟩
    | _, _ => none
  | _, _, _ => none
theorem hsOf_row {cs : List Atom} {S : Hs} (h : hsOf cs = some S) : cs = hsRow S := by
  unfold hsOf at h
  split at h <;> try cases h
  rename_i a b n ha hb hn
  split at h <;> cases h
  rename_i x r hx hr
  unfold hsRow
  rw [E8.of_to _ _ hx, B64.of_to _ _ hr, intsOf_spec ha, intsOf_spec hb]
  have hn := intsOf_spec hn
  simp only [List.map_cons, List.map_nil] at hn
  rw [hn]
  have e : cs.drop 72 = (cs.drop 8).drop 64 := by rw [List.drop_drop]
  rw [e, List.take_append_drop, List.take_append_drop]
theorem hashRow_hs (S : Hs) : hashRow S.h.at S.r.at S.n = hsRow S := by kernel_rfl
theorem hsRow_ids (S : Hs) : idsAll (hsRow S) = [] := by
  unfold hsRow
  rw [idsAll_append, idsAll_append, idsAll_ints, idsAll_ints]
  rfl

/-! ### The schedule of a block -/
def schW (R : Nat → Int) (t : Nat) : Int :=
  if h : t < 16 then IntKind.u32.wrap (wordV [R (4 * t), R (4 * t + 1), R (4 * t + 2), R (4 * t + 3)])
  else schedF (schW R (t - 2)) (schW R (t - 15)) (schW R (t - 7)) (schW R (t - 16))
termination_by t
decreasing_by all_goals omega
theorem schW_sched (R : Nat → Int) : Sched R (schW R) := by
  refine ⟨fun t ht => ?_, fun t ht => ?_⟩
  · conv => rhs; rw [schW]
    rw [dif_pos ht]
  · conv => rhs; rw [schW]
    rw [dif_neg (by omega)]
    rfl
theorem sched_unique {R W W' : Nat → Int} (h : Sched R W) (h' : Sched R W') : ∀ t, t < 64 → W t = W' t := by
  intro t
  induction t using Nat.strongRecOn with
  | _ t ih =>
    intro ht
    rcases Nat.lt_or_ge t 16 with h1 | h1
    · rw [← h.1 t h1, ← h'.1 t h1]
    · obtain ⟨s, rfl⟩ : ∃ s, t = s + 16 := ⟨t - 16, by omega⟩
      rw [← h.2 s (by omega), ← h'.2 s (by omega), ih (s + 14) (by omega) (by omega), ih (s + 1) (by omega) (by omega), ih (s + 9) (by omega) (by omega), ih s (by omega) (by omega)]
theorem rounds_congr {h W W' : Nat → Int} : ∀ t, (∀ j, j < t → W j = W' j) → rounds h W t = rounds h W' t
  | 0, _ => rfl
  | t + 1, e => by rw [rounds, rounds, rounds_congr t fun j hj => e j (by omega), e t (by omega)]
/-- A state whose rest is one whole block: the block taken. -/
def blkS (S : Hs) : Hs := { S with h := E8.mk' (compF S.h.at (schW S.r.at)) }
theorem sblk_runS (S : Hs) : RunsF Tryd.prog Gs 1 sblk.body (startT sblk.fn [.o (.a (.ptr 0 0)), .o (.a (.slc 0 8 64 64))]) [⟨true, 51, hsRow S⟩] (EndsM tys sblk.fn (endsQ (.t []) (.upd 51 (hsRow (blkS S))))) := by
  have h := sblk_run S.h.at S.r.at S.n (schW S.r.at) (schW_sched S.r.at)
  rw [hashRow_hs] at h
  have e : hashRow (compF S.h.at (schW S.r.at)) S.r.at S.n = hsRow (blkS S) := by
    rw [← hashRow_hs]
    unfold hashRow blkS
    simp only [E8.at_mk _ 0 (by omega), E8.at_mk _ 1 (by omega), E8.at_mk _ 2 (by omega), E8.at_mk _ 3 (by omega), E8.at_mk _ 4 (by omega), E8.at_mk _ 5 (by omega), E8.at_mk _ 6 (by omega), E8.at_mk _ 7 (by omega)]
  rw [e] at h
  exact h
def sblk_spec : List PArg → Option (SV × LEff × Cst)
  | [.row true ty cs, .sub 0 8 64 64] => if Nat.beq ty 51 then match hsOf cs with
      | some S => some (.t [], .upd 51 (hsRow (blkS S)), [])
      | none => none
    else none
  | _ => none
theorem sblk_specE {ps : List PArg} {r : SV} {e : LEff} {p : Cst} (h : sblk_spec ps = some (r, e, p)) : ∃ S, ps = [.row true 51 (hsRow S), .sub 0 8 64 64] ∧ r = .t [] ∧ e = .upd 51 (hsRow (blkS S)) ∧ p = [] := by
  unfold sblk_spec at h
  split at h <;> try cases h
  split at h <;> try cases h
  rename_i hty
  split at h <;> cases h
  rename_i S hS
  rw [hsOf_row hS, Nat.eq_of_beq_eq_true hty]
  exact ⟨S, rfl, rfl, rfl, rfl⟩
noncomputable def sblk_con : Con Tryd.prog Gs := Con.parts tys_ok 29 sblk.fn Tryd.func29 (by kernel_rfl) (c := sblk.body) (by kernel_rfl) [.rowW, .sub 0] sblk_spec
  (fun ps r e p h _ => by
    obtain ⟨S, rfl, rfl, rfl, rfl⟩ := sblk_specE h
    exact ⟨(fun k hk => by cases hk), hsRow_ids _, ⟨_, rfl, rfl, rfl⟩, (fun i b h => by simp [locBlks, PArg.blk] at h), fun kd ty xs o n c rest h => by cases h⟩)
  (fun ps r e p cap h _ _ => by
    obtain ⟨S, rfl, rfl, rfl, rfl⟩ := sblk_specE h
    exact sblk_runS S)
end Go.Proofs.YtpmdelihcdaffaaDoor

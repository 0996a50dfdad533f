/- The law of turned signatures: walked; its content. -/
import Derived.Test.YthbhmmndggkmaaaGreatDoorME
import Derived.Test.YthbhmmndggkmaaaGreatDoorEDoor
import Derived.Test.YthbhmmndggkmaaaGreatDoorMJ
import Derived.Test.YthbhmmndggkmaaaGreatDoorMW
namespace Go.Proofs.YthbhmmndggkmaaaGreatDoor
open Go Go.Eng Go.RowKit
set_option linter.unusedVariables false
set_option linter.unusedSimpArgs false
set_option maxRecDepth 100000

theorem xor_byt (a b : Int) : (Lit.int .u8 (bits .xor .u8 a b)).wf = true := by
  have h : 0 ≤ bits .xor .u8 a b ∧ bits .xor .u8 a b < 256 := by
    unfold bits
    rw [IntKind.wrap_u8]
    omega
  simp [Lit.wf, IntKind.min, IntKind.max, IntKind.signed, IntKind.bits]
  omega
theorem byt_wf {z : Int} (h : 0 ≤ z ∧ z < 256) : (Lit.int .u8 z).wf = true := by
  simp [Lit.wf, IntKind.min, IntKind.max, IntKind.signed, IntKind.bits]
  omega
theorem mem_putI (o : Nat) (z : Int) : ∀ (xs : List Int) (i : Nat) (x : Int), x ∈ putI o [z] i xs → x = z ∨ x ∈ xs
  | [], _, x, h => by cases h
  | y :: r, i, x, h => by
    rw [putI] at h
    rcases List.mem_cons.1 h with h | h
    · cases hc : (Nat.ble o i && Nat.blt (i - o) [z].length) with
      | false => rw [hc, cond_false] at h; exact .inr (by rw [h]; exact List.mem_cons_self ..)
      | true =>
        rw [hc, cond_true] at h
        rw [Bool.and_eq_true] at hc
        have h2 : i - o < 1 := Nat.le_of_ble_eq_true hc.2
        have h3 : i - o = 0 := by omega
        rw [h3] at h
        exact .inl h
    · rcases mem_putI o z r (i + 1) x h with h | h
      · exact .inl h
      · exact .inr (List.mem_cons_of_mem _ h)
theorem put64 (D : B64) (hD : ∀ i, 0 ≤ D.at i ∧ D.at i < 256) (k : Nat) (z : Int) (hz : (Lit.int .u8 z).wf = true) : ∃ E : B64, putI k [z] 0 D.to = E.to ∧ ∀ i, 0 ≤ E.at i ∧ E.at i < 256 := by
  refine b64_of_list _ (by rw [putI_length]; rfl) fun x hx => ?_
  rcases mem_putI k z _ _ x hx with h | h
  · rw [h]; exact hz
  · obtain ⟨i, hi, rfl⟩ := List.mem_iff_getElem.1 h
    have : ∀ i (h : i < D.to.length), D.to[i] = D.at i := fun i h => by
      have h : i < 64 := h
      match i, h with
      | 0, _ => rfl
      | 1, _ => rfl
      | 2, _ => rfl
      | 3, _ => rfl
      | 4, _ => rfl
      | 5, _ => rfl
      | 6, _ => rfl
      | 7, _ => rfl
      | 8, _ => rfl
      | 9, _ => rfl
      | 10, _ => rfl
      | 11, _ => rfl
      | 12, _ => rfl
      | 13, _ => rfl
      | 14, _ => rfl
      | 15, _ => rfl
      | 16, _ => rfl
      | 17, _ => rfl
      | 18, _ => rfl
      | 19, _ => rfl
      | 20, _ => rfl
      | 21, _ => rfl
      | 22, _ => rfl
      | 23, _ => rfl
      | 24, _ => rfl
      | 25, _ => rfl
      | 26, _ => rfl
      | 27, _ => rfl
      | 28, _ => rfl
      | 29, _ => rfl
      | 30, _ => rfl
      | 31, _ => rfl
      | 32, _ => rfl
      | 33, _ => rfl
      | 34, _ => rfl
      | 35, _ => rfl
      | 36, _ => rfl
      | 37, _ => rfl
      | 38, _ => rfl
      | 39, _ => rfl
      | 40, _ => rfl
      | 41, _ => rfl
      | 42, _ => rfl
      | 43, _ => rfl
      | 44, _ => rfl
      | 45, _ => rfl
      | 46, _ => rfl
      | 47, _ => rfl
      | 48, _ => rfl
      | 49, _ => rfl
      | 50, _ => rfl
      | 51, _ => rfl
      | 52, _ => rfl
      | 53, _ => rfl
      | 54, _ => rfl
      | 55, _ => rfl
      | 56, _ => rfl
      | 57, _ => rfl
      | 58, _ => rfl
      | 59, _ => rfl
      | 60, _ => rfl
      | 61, _ => rfl
      | 62, _ => rfl
      | 63, _ => rfl
      | j + 64, h => exact absurd h (by omega)
    rw [this]
    exact byt_wf (hD i)
theorem put32 (b : B32) (hb : BOk b) (k : Nat) (z : Int) (hz : (Lit.int .u8 z).wf = true) : ∃ E : B32, putI k [z] 0 b.to = E.to ∧ BOk E := by
  refine b32_of_list _ (by rw [putI_length]; rfl) fun x hx => ?_
  rcases mem_putI k z _ _ x hx with h | h
  · rw [h]; exact hz
  · obtain ⟨i, hi, rfl⟩ := List.mem_iff_getElem.1 h
    have : ∀ i (h : i < b.to.length), b.to[i] = b.at i := fun i h => by
      have h : i < 32 := h
      match i, h with
      | 0, _ => rfl
      | 1, _ => rfl
      | 2, _ => rfl
      | 3, _ => rfl
      | 4, _ => rfl
      | 5, _ => rfl
      | 6, _ => rfl
      | 7, _ => rfl
      | 8, _ => rfl
      | 9, _ => rfl
      | 10, _ => rfl
      | 11, _ => rfl
      | 12, _ => rfl
      | 13, _ => rfl
      | 14, _ => rfl
      | 15, _ => rfl
      | 16, _ => rfl
      | 17, _ => rfl
      | 18, _ => rfl
      | 19, _ => rfl
      | 20, _ => rfl
      | 21, _ => rfl
      | 22, _ => rfl
      | 23, _ => rfl
      | 24, _ => rfl
      | 25, _ => rfl
      | 26, _ => rfl
      | 27, _ => rfl
      | 28, _ => rfl
      | 29, _ => rfl
      | 30, _ => rfl
      | 31, _ => rfl
      | j + 32, h => exact absurd h (by omega)
    rw [this]
    exact byt_wf (hb i)
theorem hi64_ok {D : B64} (h : ∀ i, 0 ≤ D.at i ∧ D.at i < 256) : BOk (hi64 D) := by
  intro i
  unfold hi64 B32.at
  split
  · exact h 32
  · exact h 33
  · exact h 34
  · exact h 35
  · exact h 36
  · exact h 37
  · exact h 38
  · exact h 39
  · exact h 40
  · exact h 41
  · exact h 42
  · exact h 43
  · exact h 44
  · exact h 45
  · exact h 46
  · exact h 47
  · exact h 48
  · exact h 49
  · exact h 50
  · exact h 51
  · exact h 52
  · exact h 53
  · exact h 54
  · exact h 55
  · exact h 56
  · exact h 57
  · exact h 58
  · exact h 59
  · exact h 60
  · exact h 61
  · exact h 62
  · exact h 63
theorem cat_all {a b : B32} (ha : BOk a) (hb : BOk b) : ∀ i, 0 ≤ (cat64 a b).at i ∧ (cat64 a b).at i < 256 := by
  intro i
  unfold cat64 B64.at
  split
  · exact ha 0
  · exact ha 1
  · exact ha 2
  · exact ha 3
  · exact ha 4
  · exact ha 5
  · exact ha 6
  · exact ha 7
  · exact ha 8
  · exact ha 9
  · exact ha 10
  · exact ha 11
  · exact ha 12
  · exact ha 13
  · exact ha 14
  · exact ha 15
  · exact ha 16
  · exact ha 17
  · exact ha 18
  · exact ha 19
  · exact ha 20
  · exact ha 21
  · exact ha 22
  · exact ha 23
  · exact ha 24
  · exact ha 25
  · exact ha 26
  · exact ha 27
  · exact ha 28
  · exact ha 29
  · exact ha 30
  · exact ha 31
  · exact hb 0
  · exact hb 1
  · exact hb 2
  · exact hb 3
  · exact hb 4
  · exact hb 5
  · exact hb 6
  · exact hb 7
  · exact hb 8
  · exact hb 9
  · exact hb 10
  · exact hb 11
  · exact hb 12
  · exact hb 13
  · exact hb 14
  · exact hb 15
  · exact hb 16
  · exact hb 17
  · exact hb 18
  · exact hb 19
  · exact hb 20
  · exact hb 21
  · exact hb 22
  · exact hb 23
  · exact hb 24
  · exact hb 25
  · exact hb 26
  · exact hb 27
  · exact hb 28
  · exact hb 29
  · exact hb 30
  · exact hb 31
theorem sig_all (b : B32) (m : List Int) : ∀ i, 0 ≤ (sigV b m).at i ∧ (sigV b m).at i < 256 := cat_all (nonce_pt b m).ok (end_val b m).1
namespace ltrn
noncomputable abbrev fn := Tryz.f4
noncomputable def body : Code := bodyOf fn
noncomputable def R4 : Code := cs1 (csuf 3 body)
noncomputable def i4 : Nat := match R4 with | .region i _ _ => i | _ => 0
noncomputable def T5 : Code := csuf 4 body
theorem suf_eq : csuf 3 body = .seq (.region i4 (opsOf R4) false) T5 := by kernel_rfl
theorem nil4 : (opsOf R4).toList.drop 4 = [] := by kernel_rfl
noncomputable def Γ (Z : B32 → List Int → B64) (hZ : Z = sigV) (V : B32 → List Int → B64 → Int) (hV : V = verV) : Cons Tryz.prog G2 := [awake_con, rpublic_con, rsgn.con Z hZ, ver.con V hV, rver.con V hV]
def uI (w : Int) (m : Int) : Int := IntKind.i64.wrap ((IntKind.u64.wrap w).tmod m)
theorem uI_bd (w : Int) {m : Int} (h0 : 0 < m) (h1 : m < 1000) : 0 ≤ uI w m ∧ uI w m < m := by
  have h : 0 ≤ IntKind.u64.wrap w := by rw [wrap64]; exact Int.emod_nonneg _ (by decide)
  have h2 : (IntKind.u64.wrap w).tmod m = IntKind.u64.wrap w % m := Int.tmod_eq_emod_of_nonneg h
  have h3 := Int.emod_nonneg (IntKind.u64.wrap w) (show m ≠ 0 by omega)
  have h4 := Int.emod_lt_of_pos (IntKind.u64.wrap w) h0
  unfold uI
  rw [h2, i64_small _ (by omega) (by omega)]
  exact ⟨h3, h4⟩
namespace w
def MA (ys : List Int) (n c : Nat) (ty : TypeId) (e : B32) (wh at_ : Int) : List (Option SV) := maskL 84 0 [(1, .o (.a (.sld 0 0 0 n c))), (2, (cInt .i64).enc wh), (3, (cInt .i64).enc at_), (9, .o (.a (.ptr 2 0))), (10, .o (.a (.ptr 3 0)))]
def MB (ys : List Int) (n c : Nat) (ty : TypeId) (e : B32) (wh at_ : Int) (l : Nat) : List (Option SV) := maskL 84 0 [(2, (cInt .i64).enc wh), (3, (cInt .i64).enc at_), (9, .o (.a (.ptr 2 0))), (10, .o (.a (.ptr 3 0))), (11, .o (.a (.slg 4 l)))]
def MZ (ys : List Int) (n c : Nat) (ty : TypeId) (e : B32) (wh at_ : Int) : List (Option SV) := maskL 84 0 [(8, cBool.enc true)]
def args (ys : List Int) (n c : Nat) (ty : TypeId) (e : B32) (wh at_ : Int) : List Blk := [⟨false, ty, .pre .u8 ys⟩]
def memA (ys : List Int) (n c : Nat) (ty : TypeId) (e : B32) (wh at_ : Int) (q : B32) (D : B64) : List Blk := args ys n c ty e wh at_ ++ [⟨true, 22, .lit (cB32.row e)⟩, ⟨true, 22, .lit (cB32.row q)⟩, ⟨true, 24, .lit (cB64.row D)⟩]
def memB (ys : List Int) (n c : Nat) (ty : TypeId) (e : B32) (wh at_ : Int) (q : B32) (D : B64) (xs : List Int) (lo : Nat) (hi : Option Nat) : List Blk := memA ys n c ty e wh at_ q D ++ [⟨true, 5, .gro .u8 xs lo hi⟩]
theorem idsA (ys : List Int) (n c : Nat) (ty : TypeId) (e : B32) (wh at_ : Int) (q : B32) (D : B64) : idsIn (memA ys n c ty e wh at_ q D).length (MA ys n c ty e wh at_ ) (memA ys n c ty e wh at_ q D) = true := by kernel_rfl
theorem idsB (ys : List Int) (n c : Nat) (ty : TypeId) (e : B32) (wh at_ : Int) (q : B32) (D : B64) (xs : List Int) (lo : Nat) (hi : Option Nat) (l : Nat) : idsIn (memB ys n c ty e wh at_ q D xs lo hi).length (MB ys n c ty e wh at_ l) (memB ys n c ty e wh at_ q D xs lo hi) = true := by kernel_rfl
theorem idsZ (ys : List Int) (n c : Nat) (ty : TypeId) (e : B32) (wh at_ : Int) : idsIn (args ys n c ty e wh at_ ).length (MZ ys n c ty e wh at_ ) (args ys n c ty e wh at_ ) = true := by kernel_rfl
theorem s0 (Z : B32 → List Int → B64) (hZ : Z = sigV) (V : B32 → List Int → B64 → Int) (hV : V = verV) (ys : List Int) (n c : Nat) (ty : TypeId) (e : B32) (wh at_ : Int) (q : B32) (D : B64) : outX (memA ys n c ty e wh at_ q D).length (MA ys n c ty e wh at_ ) (exec (Γ Z hZ V hV) tys 100 (cpre 3 body) ⟨startT fn [cB32.enc e, .o (.a (.sld 0 0 0 n c)), (cInt .i64).enc wh, (cInt .i64).enc at_], args ys n c ty e wh at_ , [(15, [.s (cB32.enc q)]), (18, [.s (cB64.enc D)])]⟩) = some (.normal, live (MA ys n c ty e wh at_ ), (MA ys n c ty e wh at_ ).length, memA ys n c ty e wh at_ q D, [cB32.enc (pubV e) = cB32.enc q, 0 + n ≤ ys.length, n ≤ c, n ≤ 140737488353900, cB64.enc (Z e ((ys.drop 0).take n)) = cB64.enc D]) := by kernel_rfl
theorem e4 (ys : List Int) (n c : Nat) (ty : TypeId) (e : B32) (wh at_ : Int) (q : B32) (D : B64) (g : Nat → SV) : outXL (memB ys n c ty e wh at_ q D ([] ++ ((ys.drop 0).take n)) 0 (some 1)).length (MB ys n c ty e wh at_ (0 + n)) (runOps (Γ sigV rfl verV rfl) tys (opsOf R4).toList ((opsOf R4).toList.take 4) ⟨fill g 0 (MA ys n c ty e wh at_ ), memA ys n c ty e wh at_ q D, [(19, [.dyn]), (21, [.dyn])]⟩) = some (live (MB ys n c ty e wh at_ (0 + n)), (MB ys n c ty e wh at_ (0 + n)).length, memB ys n c ty e wh at_ q D ([] ++ ((ys.drop 0).take n)) 0 (some 1), [0 + n ≤ ys.length, 0 = 0, 0 + n ≤ 0]) := by kernel_rfl
theorem f4 (ys : List Int) (n c : Nat) (ty : TypeId) (e : B32) (wh at_ : Int) (q : B32) (D : B64) (g : Nat → SV) : outNL [0, 1, 2, 3, 5] (MB ys n c ty e wh at_ (0 + n)) (runOps (Γ sigV rfl verV rfl) tys (opsOf R4).toList ((opsOf R4).toList.take 4) ⟨fill g 0 (MA ys n c ty e wh at_ ), memA ys n c ty e wh at_ q D, [(19, [.dyn])]⟩) = some ((live (MB ys n c ty e wh at_ (0 + n))).map (SV.ren (piF [0, 1, 2, 3, 5])), (MB ys n c ty e wh at_ (0 + n)).length, (memB ys n c ty e wh at_ q D ([] ++ ((ys.drop 0).take n)) (0 + n) none).map (fun b => some (b.ren (piF [0, 1, 2, 3, 5]))), [0 + n ≤ ys.length, 0 = 0, 1 ≤ 0 + n, Room Tryz.prog 5 (0 + n)]) := by kernel_rfl
theorem t0 (Z : B32 → List Int → B64) (hZ : Z = sigV) (V : B32 → List Int → B64 → Int) (hV : V = verV) (ys : List Int) (n c : Nat) (ty : TypeId) (e : B32) (wh at_ : Int) (q : B32) (D : B64) (E : B64) (xs : List Int) (l lo k : Nat) (av z r : Int) (g : Nat → SV) : ∀ (s : Nat), s < 8 → outX (args ys n c ty e wh at_ ).length (MZ ys n c ty e wh at_ ) (exec (Γ Z hZ V hV) tys 100 T5 ⟨fill g 0 (MB ys n c ty e wh at_ l), memB ys n c ty e wh at_ q D xs lo none, [(25, [.n av]), (29, [.n 0]), (50, [.n (k : Int)]), (52, [.n (k : Int)]), (53, [.dyn]), (56, [.n (s : Int)]), (59, [.n z]), (60, [.dyn]), (77, [.s (cB64.enc E)]), (81, [.s (cB64.enc E)]), (78, [.s ((cInt .i64).enc r)]), (82, [.s ((cInt .i64).enc r)]), (83, [.b true])]⟩) = some (.ret, live (MZ ys n c ty e wh at_ ), (MZ ys n c ty e wh at_ ).length, args ys n c ty e wh at_ , [uI at_ 512 = av, uI wh 3 = 0, IntKind.i64.wrap (av.tdiv 8) = (k : Int), IntKind.i64.wrap (av.tdiv 8) = (k : Int), 0 ≤ (k : Int), (k : Int) < 64, 0 + k < D.to.length, av.tmod 8 = (s : Int), bits .xor .u8 (D.to.getD (0 + k) 0) ((2 : Int) ^ s) = z, 0 ≤ (k : Int), (k : Int) < 64, 0 + k + 1 ≤ D.to.length, SV.o (.g ((putI (0 + k) [z] 0 D.to).map (int1 .u8))) = cB64.enc E, 0 + l ≤ xs.length, l ≤ lo, ∀ i, 0 ≤ (hi64 E).at i ∧ (hi64 E).at i < 256, l ≤ 140737488353900, (cInt .i64).enc (V q ((xs.drop 0).take l) E) = (cInt .i64).enc r, SV.o (.g ((putI (0 + k) [z] 0 D.to).map (int1 .u8))) = cB64.enc E, 0 + l ≤ xs.length, l ≤ lo, BOk q, BOk (hi64 E), l ≤ 140737488353900, (cInt .i64).enc (V q ((xs.drop 0).take l) E) = (cInt .i64).enc r, (r == r) = true])
  | 0, _ => by kernel_rfl
  | 1, _ => by kernel_rfl
  | 2, _ => by kernel_rfl
  | 3, _ => by kernel_rfl
  | 4, _ => by kernel_rfl
  | 5, _ => by kernel_rfl
  | 6, _ => by kernel_rfl
  | 7, _ => by kernel_rfl
  | j + 8, h => absurd h (by omega)
theorem t1 (Z : B32 → List Int → B64) (hZ : Z = sigV) (V : B32 → List Int → B64 → Int) (hV : V = verV) (ys : List Int) (n c : Nat) (ty : TypeId) (e : B32) (wh at_ : Int) (q : B32) (D : B64) (E : B32) (xs : List Int) (l lo k : Nat) (av z r : Int) (g : Nat → SV) : ∀ (s : Nat), s < 8 → outX (args ys n c ty e wh at_ ).length (MZ ys n c ty e wh at_ ) (exec (Γ Z hZ V hV) tys 100 T5 ⟨fill g 0 (MB ys n c ty e wh at_ l), memB ys n c ty e wh at_ q D xs lo none, [(25, [.n av]), (29, [.n 1]), (64, [.n (k : Int)]), (66, [.n (k : Int)]), (67, [.dyn]), (70, [.n (s : Int)]), (73, [.n z]), (74, [.dyn]), (75, [.s (cB32.enc E)]), (79, [.s (cB32.enc E)]), (78, [.s ((cInt .i64).enc r)]), (82, [.s ((cInt .i64).enc r)]), (83, [.b true])]⟩) = some (.ret, live (MZ ys n c ty e wh at_ ), (MZ ys n c ty e wh at_ ).length, args ys n c ty e wh at_ , [uI at_ 512 = av, uI wh 3 = 1, IntKind.i64.wrap (av.tdiv 16) = (k : Int), IntKind.i64.wrap (av.tdiv 16) = (k : Int), 0 ≤ (k : Int), (k : Int) < 32, 0 + k < q.to.length, av.tmod 8 = (s : Int), bits .xor .u8 (q.to.getD (0 + k) 0) ((2 : Int) ^ s) = z, 0 ≤ (k : Int), (k : Int) < 32, 0 + k + 1 ≤ q.to.length, SV.o (.g ((putI (0 + k) [z] 0 q.to).map (int1 .u8))) = cB32.enc E, 0 + l ≤ xs.length, l ≤ lo, ∀ i, 0 ≤ (hi64 D).at i ∧ (hi64 D).at i < 256, l ≤ 140737488353900, (cInt .i64).enc (V E ((xs.drop 0).take l) D) = (cInt .i64).enc r, SV.o (.g ((putI (0 + k) [z] 0 q.to).map (int1 .u8))) = cB32.enc E, 0 + l ≤ xs.length, l ≤ lo, BOk E, BOk (hi64 D), l ≤ 140737488353900, (cInt .i64).enc (V E ((xs.drop 0).take l) D) = (cInt .i64).enc r, (r == r) = true])
  | 0, _ => by kernel_rfl
  | 1, _ => by kernel_rfl
  | 2, _ => by kernel_rfl
  | 3, _ => by kernel_rfl
  | 4, _ => by kernel_rfl
  | 5, _ => by kernel_rfl
  | 6, _ => by kernel_rfl
  | 7, _ => by kernel_rfl
  | j + 8, h => absurd h (by omega)
theorem t2 (Z : B32 → List Int → B64) (hZ : Z = sigV) (V : B32 → List Int → B64 → Int) (hV : V = verV) (ys : List Int) (n c : Nat) (ty : TypeId) (e : B32) (wh at_ : Int) (q : B32) (D : B64) (xs : List Int) (m lo j : Nat) (av z r : Int) (g : Nat → SV) : outX (args ys n c ty e wh at_ ).length (MZ ys n c ty e wh at_ ) (exec (Γ Z hZ V hV) tys 100 T5 ⟨fill g 0 (MB ys n c ty e wh at_ (m + 1)), memB ys n c ty e wh at_ q D xs lo none, [(25, [.n av]), (29, [.n 2]), (32, [.b true]), (37, [.n (j : Int)]), (42, [.n (j : Int)]), (45, [.n z]), (78, [.s ((cInt .i64).enc r)]), (82, [.s ((cInt .i64).enc r)]), (83, [.b true])]⟩) = some (.ret, live (MZ ys n c ty e wh at_ ), (MZ ys n c ty e wh at_ ).length, args ys n c ty e wh at_ , [uI at_ 512 = av, uI wh 3 = 2, decide (((m + 1 : Nat) : Int) > 0) = true, av.tmod ((m + 1 : Nat) : Int) = (j : Int), av.tmod ((m + 1 : Nat) : Int) = (j : Int), 0 ≤ (j : Int), (j : Int) < ((m + 1 : Nat) : Int), 0 + j < xs.length, bits .xor .u8 (xs.getD (0 + j) 0) 1 = z, 0 ≤ (j : Int), (j : Int) < ((m + 1 : Nat) : Int), 0 + j + 1 ≤ xs.length, 0 + (m + 1) ≤ (putI (0 + j) [z] 0 xs).length, (m + 1) ≤ lo, ∀ i, 0 ≤ (hi64 D).at i ∧ (hi64 D).at i < 256, (m + 1) ≤ 140737488353900, (cInt .i64).enc (V q (((putI (0 + j) [z] 0 xs).drop 0).take (m + 1)) D) = (cInt .i64).enc r, 0 + (m + 1) ≤ (putI (0 + j) [z] 0 xs).length, (m + 1) ≤ lo, BOk q, BOk (hi64 D), (m + 1) ≤ 140737488353900, (cInt .i64).enc (V q (((putI (0 + j) [z] 0 xs).drop 0).take (m + 1)) D) = (cInt .i64).enc r, (r == r) = true]) := by kernel_rfl
theorem t3 (Z : B32 → List Int → B64) (hZ : Z = sigV) (V : B32 → List Int → B64 → Int) (hV : V = verV) (ys : List Int) (n c : Nat) (ty : TypeId) (e : B32) (wh at_ : Int) (q : B32) (D : B64) (xs : List Int) (l lo : Nat) (av r : Int) (g : Nat → SV) : outX (args ys n c ty e wh at_ ).length (MZ ys n c ty e wh at_ ) (exec (Γ Z hZ V hV) tys 100 T5 ⟨fill g 0 (MB ys n c ty e wh at_ l), memB ys n c ty e wh at_ q D xs lo none, [(25, [.n av]), (29, [.n 2]), (32, [.b false]), (78, [.s ((cInt .i64).enc r)]), (82, [.s ((cInt .i64).enc r)]), (83, [.b true])]⟩) = some (.ret, live (MZ ys n c ty e wh at_ ), (MZ ys n c ty e wh at_ ).length, args ys n c ty e wh at_ , [uI at_ 512 = av, uI wh 3 = 2, decide ((l : Int) > 0) = false, 0 + l ≤ xs.length, l ≤ lo, ∀ i, 0 ≤ (hi64 D).at i ∧ (hi64 D).at i < 256, l ≤ 140737488353900, (cInt .i64).enc (V q ((xs.drop 0).take l) D) = (cInt .i64).enc r, 0 + l ≤ xs.length, l ≤ lo, BOk q, BOk (hi64 D), l ≤ 140737488353900, (cInt .i64).enc (V q ((xs.drop 0).take l) D) = (cInt .i64).enc r, (r == r) = true]) := by kernel_rfl
theorem zr (ys : List Int) (n c : Nat) (ty : TypeId) (e : B32) (wh at_ : Int) (g : Nat → SV) : eRes tys (fill g 0 (MZ ys n c ty e wh at_ )) (fun k => (args ys n c ty e wh at_ )[k]?) fn.results.toList = some [.a (bool1 true)] := by kernel_rfl
theorem one (ys : List Int) (n c : Nat) (ty : TypeId) (e : B32) (wh at_ : Int) (q : B32) (D : B64) (hy : ys.length = n) (hn : n ≤ 140737488353900) {Post : Ex → List SV → List Blk → Prop} (hp : ∀ g lo, n ≤ lo → Post .normal (fill g 0 (MB ys n c ty e wh at_ (0 + n))) (memB ys n c ty e wh at_ q D ([] ++ ((ys.drop 0).take n)) lo none)) (g : Nat → SV) :
    RunsL Tryz.prog G2 1 (opsOf R4) (opsOf R4).toList (fill g 0 (MA ys n c ty e wh at_ )) (memA ys n c ty e wh at_ q D) Post := by
  by_cases h0 : n = 0
  · refine RunsL.of_outX tys_ok 4 (e4 ys n c ty e wh at_ q D g) ⟨by omega, rfl, by omega, trivial⟩ (idsB ys n c ty e wh at_ _ _ _ _ _ _) rfl fun g => ?_
    refine RunsL.weak 4 (own := true) (ty := 5) (kd := .u8) (xs := [] ++ ((ys.drop 0).take n)) (lo := 0) (lo' := 0) (hi := some 1) rfl (Nat.le_refl _) ?_
    rw [nil4]
    exact RunsL.nil (hp g 0 (by omega))
  · refine RunsL.of_outN tys_ok 4 _ (f4 ys n c ty e wh at_ q D g) ⟨by omega, rfl, by omega, roomU _ (by omega), trivial⟩ (idsB ys n c ty e wh at_ _ _ _ _ _ _) rfl fun g => ?_
    rw [nil4]
    exact RunsL.nil (hp g (0 + n) (by omega))
theorem fin (ys : List Int) (n c : Nat) (ty : TypeId) (e : B32) (wh at_ : Int) (q : B32) (D : B64) (hq : BOk q) (hD : ∀ i, 0 ≤ D.at i ∧ D.at i < 256) (xs : List Int) (lo : Nat) (hx : xs.length = 0 + n) (hlo : 0 + n ≤ lo) (hn : n ≤ 140737488353900) (g : Nat → SV) :
    RunsF Tryz.prog G2 1 T5 (fill g 0 (MB ys n c ty e wh at_ (0 + n))) (memB ys n c ty e wh at_ q D xs lo none) (EndsM tys fn (endsQ (cBool.enc true) .none)) := by
  have hat := uI_bd at_ (m := 512) (by decide) (by decide)
  have hwh := uI_bd wh (m := 3) (by decide) (by decide)
  have hs : (uI at_ 512).tmod 8 = (((uI at_ 512 % 8).toNat : Nat) : Int) := by
    rw [Int.tmod_eq_emod_of_nonneg hat.1]
    omega
  have hs8 : (uI at_ 512 % 8).toNat < 8 := by omega
  have h3 : uI wh 3 = 0 ∨ uI wh 3 = 1 ∨ uI wh 3 = 2 := by omega
  rcases h3 with h | h | h
  · have hk : IntKind.i64.wrap ((uI at_ 512).tdiv 8) = (((uI at_ 512 / 8).toNat : Nat) : Int) := by
      rw [Int.tdiv_eq_ediv_of_nonneg hat.1, i64_small _ (by omega) (by omega)]
      omega
    have hk2 : (uI at_ 512 / 8).toNat < 64 := by omega
    have hl : D.to.length = 64 := rfl
    generalize (uI at_ 512 / 8).toNat = k at *
    generalize (uI at_ 512 % 8).toNat = s at *
    obtain ⟨E, hE1, hE2⟩ := put64 D hD (0 + k) (bits .xor .u8 (D.to.getD (0 + k) 0) ((2 : Int) ^ s)) (xor_byt _ _)
    exact Runs.of_outX tys_ok mixed (t0 sigV rfl verV rfl ys n c ty e wh at_ q D E xs (0 + n) lo k (uI at_ 512) _ (verV q ((xs.drop 0).take (0 + n)) E) g s hs8) ⟨rfl, h, hk, hk, by omega, by omega, by omega, hs, rfl, by omega, by omega, by omega, by rw [hE1]; rfl, by omega, by omega, fun i => hi64_ok hE2 i, by omega, rfl, by rw [hE1]; rfl, by omega, by omega, hq, hi64_ok hE2, by omega, rfl, beq_self_eq_true _, trivial⟩ (idsZ ys n c ty e wh at_ ) rfl fun g' => EndsM.ret (zr ys n c ty e wh at_ g') rfl
  · have hk : IntKind.i64.wrap ((uI at_ 512).tdiv 16) = (((uI at_ 512 / 16).toNat : Nat) : Int) := by
      rw [Int.tdiv_eq_ediv_of_nonneg hat.1, i64_small _ (by omega) (by omega)]
      omega
    have hk2 : (uI at_ 512 / 16).toNat < 32 := by omega
    have hl : q.to.length = 32 := rfl
    generalize (uI at_ 512 / 16).toNat = k at *
    generalize (uI at_ 512 % 8).toNat = s at *
    obtain ⟨E, hE1, hE2⟩ := put32 q hq (0 + k) (bits .xor .u8 (q.to.getD (0 + k) 0) ((2 : Int) ^ s)) (xor_byt _ _)
    exact Runs.of_outX tys_ok mixed (t1 sigV rfl verV rfl ys n c ty e wh at_ q D E xs (0 + n) lo k (uI at_ 512) _ (verV E ((xs.drop 0).take (0 + n)) D) g s hs8) ⟨rfl, h, hk, hk, by omega, by omega, by omega, hs, rfl, by omega, by omega, by omega, by rw [hE1]; rfl, by omega, by omega, fun i => hi64_ok hD i, by omega, rfl, by rw [hE1]; rfl, by omega, by omega, hE2, hi64_ok hD, by omega, rfl, beq_self_eq_true _, trivial⟩ (idsZ ys n c ty e wh at_ ) rfl fun g' => EndsM.ret (zr ys n c ty e wh at_ g') rfl
  · clear hs hs8
    by_cases hN : n = 0
    · exact Runs.of_outX tys_ok mixed (t3 sigV rfl verV rfl ys n c ty e wh at_ q D xs (0 + n) lo (uI at_ 512) (verV q ((xs.drop 0).take (0 + n)) D) g) ⟨rfl, h, decide_eq_false (by omega), by omega, by omega, fun i => hi64_ok hD i, by omega, rfl, by omega, by omega, hq, hi64_ok hD, by omega, rfl, beq_self_eq_true _, trivial⟩ (idsZ ys n c ty e wh at_ ) rfl fun g' => EndsM.ret (zr ys n c ty e wh at_ g') rfl
    · obtain ⟨m, hm⟩ : ∃ m, 0 + n = m + 1 := ⟨n - 1, by omega⟩
      rw [hm] at hx ⊢
      have hj0 := Int.emod_nonneg (uI at_ 512) (show ((m + 1 : Nat) : Int) ≠ 0 by omega)
      have hj1 := Int.emod_lt_of_pos (uI at_ 512) (show (0 : Int) < ((m + 1 : Nat) : Int) by omega)
      have hj : (uI at_ 512).tmod ((m + 1 : Nat) : Int) = (((uI at_ 512 % ((m + 1 : Nat) : Int)).toNat : Nat) : Int) := by
        rw [Int.tmod_eq_emod_of_nonneg hat.1]
        omega
      have hj2 : (uI at_ 512 % ((m + 1 : Nat) : Int)).toNat < m + 1 := by omega
      generalize (uI at_ 512 % ((m + 1 : Nat) : Int)).toNat = j at *
      exact Runs.of_outX tys_ok mixed (t2 sigV rfl verV rfl ys n c ty e wh at_ q D xs m lo j (uI at_ 512) (bits .xor .u8 (xs.getD (0 + j) 0) 1) (verV q (((putI (0 + j) [bits .xor .u8 (xs.getD (0 + j) 0) 1] 0 xs).drop 0).take (m + 1)) D) g) ⟨rfl, h, decide_eq_true (by omega), hj, hj, by omega, by omega, by omega, rfl, by omega, by omega, by omega, by rw [putI_length]; omega, by omega, fun i => hi64_ok hD i, by omega, rfl, by rw [putI_length]; omega, by omega, hq, hi64_ok hD, by omega, rfl, beq_self_eq_true _, trivial⟩ (idsZ ys n c ty e wh at_ ) rfl fun g' => EndsM.ret (zr ys n c ty e wh at_ g') rfl
theorem walk (ys : List Int) (n c : Nat) (ty : TypeId) (e : B32) (wh at_ : Int) (hy : ys.length = n) (hn : n ≤ 140737488353900) (hc : n ≤ c) : RunsF Tryz.prog G2 1 body (startT fn [cB32.enc e, .o (.a (.sld 0 0 0 n c)), (cInt .i64).enc wh, (cInt .i64).enc at_]) (args ys n c ty e wh at_ ) (EndsM tys fn (endsQ (cBool.enc true) .none)) := by
  refine Runs.of_outXP tys_ok mixed 3 (s0 sigV rfl verV rfl ys n c ty e wh at_ (pubV e) (sigV e ((ys.drop 0).take n))) ⟨rfl, by omega, hc, hn, rfl, trivial⟩ (idsA ys n c ty e wh at_ _ _) rfl fun g => ?_
  rw [suf_eq]
  refine Runs.seq (Runs.region (one ys n c ty e wh at_ _ _ hy hn (fun g lo hlo => ?_) g))
  exact fin ys n c ty e wh at_ _ _ (pub_pt e).ok (sig_all e _) _ lo (by rw [List.nil_append, List.length_take, List.drop_zero]; omega) (by omega) (by omega) g
end w
namespace v
def MA (a : Option Addr) (e : B32) (wh at_ : Int) : List (Option SV) := maskL 84 0 [(1, .o (.a (.v (.slice a 0 0)))), (2, (cInt .i64).enc wh), (3, (cInt .i64).enc at_), (9, .o (.a (.ptr 1 0))), (10, .o (.a (.ptr 2 0)))]
def MB (a : Option Addr) (e : B32) (wh at_ : Int) (l : Nat) : List (Option SV) := maskL 84 0 [(2, (cInt .i64).enc wh), (3, (cInt .i64).enc at_), (9, .o (.a (.ptr 1 0))), (10, .o (.a (.ptr 2 0))), (11, .o (.a (.slg 3 l)))]
def MZ (a : Option Addr) (e : B32) (wh at_ : Int) : List (Option SV) := maskL 84 0 [(8, cBool.enc true)]
def args (a : Option Addr) (e : B32) (wh at_ : Int) : List Blk := []
def memA (a : Option Addr) (e : B32) (wh at_ : Int) (q : B32) (D : B64) : List Blk := args a e wh at_ ++ [⟨true, 22, .lit (cB32.row e)⟩, ⟨true, 22, .lit (cB32.row q)⟩, ⟨true, 24, .lit (cB64.row D)⟩]
def memB (a : Option Addr) (e : B32) (wh at_ : Int) (q : B32) (D : B64) (xs : List Int) (lo : Nat) (hi : Option Nat) : List Blk := memA a e wh at_ q D ++ [⟨true, 5, .gro .u8 xs lo hi⟩]
theorem idsA (a : Option Addr) (e : B32) (wh at_ : Int) (q : B32) (D : B64) : idsIn (memA a e wh at_ q D).length (MA a e wh at_ ) (memA a e wh at_ q D) = true := by kernel_rfl
theorem idsB (a : Option Addr) (e : B32) (wh at_ : Int) (q : B32) (D : B64) (xs : List Int) (lo : Nat) (hi : Option Nat) (l : Nat) : idsIn (memB a e wh at_ q D xs lo hi).length (MB a e wh at_ l) (memB a e wh at_ q D xs lo hi) = true := by kernel_rfl
theorem idsZ (a : Option Addr) (e : B32) (wh at_ : Int) : idsIn (args a e wh at_ ).length (MZ a e wh at_ ) (args a e wh at_ ) = true := by kernel_rfl
theorem s0 (Z : B32 → List Int → B64) (hZ : Z = sigV) (V : B32 → List Int → B64 → Int) (hV : V = verV) (a : Option Addr) (e : B32) (wh at_ : Int) (q : B32) (D : B64) : outX (memA a e wh at_ q D).length (MA a e wh at_ ) (exec (Γ Z hZ V hV) tys 100 (cpre 3 body) ⟨startT fn [cB32.enc e, .o (.a (.v (.slice a 0 0))), (cInt .i64).enc wh, (cInt .i64).enc at_], args a e wh at_ , [(15, [.s (cB32.enc q)]), (18, [.s (cB64.enc D)])]⟩) = some (.normal, live (MA a e wh at_ ), (MA a e wh at_ ).length, memA a e wh at_ q D, [cB32.enc (pubV e) = cB32.enc q, cB64.enc (Z e []) = cB64.enc D]) := by kernel_rfl
theorem e4 (a : Option Addr) (e : B32) (wh at_ : Int) (q : B32) (D : B64) (g : Nat → SV) : outXL (memB a e wh at_ q D ([] ++ []) 0 (some 1)).length (MB a e wh at_ (0 + 0)) (runOps (Γ sigV rfl verV rfl) tys (opsOf R4).toList ((opsOf R4).toList.take 4) ⟨fill g 0 (MA a e wh at_ ), memA a e wh at_ q D, [(19, [.dyn]), (21, [.dyn])]⟩) = some (live (MB a e wh at_ (0 + 0)), (MB a e wh at_ (0 + 0)).length, memB a e wh at_ q D ([] ++ []) 0 (some 1), [0 = 0, 0 + 0 ≤ 0]) := by kernel_rfl
theorem t0 (Z : B32 → List Int → B64) (hZ : Z = sigV) (V : B32 → List Int → B64 → Int) (hV : V = verV) (a : Option Addr) (e : B32) (wh at_ : Int) (q : B32) (D : B64) (E : B64) (xs : List Int) (l lo k : Nat) (av z r : Int) (g : Nat → SV) : ∀ (s : Nat), s < 8 → outX (args a e wh at_ ).length (MZ a e wh at_ ) (exec (Γ Z hZ V hV) tys 100 T5 ⟨fill g 0 (MB a e wh at_ l), memB a e wh at_ q D xs lo none, [(25, [.n av]), (29, [.n 0]), (50, [.n (k : Int)]), (52, [.n (k : Int)]), (53, [.dyn]), (56, [.n (s : Int)]), (59, [.n z]), (60, [.dyn]), (77, [.s (cB64.enc E)]), (81, [.s (cB64.enc E)]), (78, [.s ((cInt .i64).enc r)]), (82, [.s ((cInt .i64).enc r)]), (83, [.b true])]⟩) = some (.ret, live (MZ a e wh at_ ), (MZ a e wh at_ ).length, args a e wh at_ , [uI at_ 512 = av, uI wh 3 = 0, IntKind.i64.wrap (av.tdiv 8) = (k : Int), IntKind.i64.wrap (av.tdiv 8) = (k : Int), 0 ≤ (k : Int), (k : Int) < 64, 0 + k < D.to.length, av.tmod 8 = (s : Int), bits .xor .u8 (D.to.getD (0 + k) 0) ((2 : Int) ^ s) = z, 0 ≤ (k : Int), (k : Int) < 64, 0 + k + 1 ≤ D.to.length, SV.o (.g ((putI (0 + k) [z] 0 D.to).map (int1 .u8))) = cB64.enc E, 0 + l ≤ xs.length, l ≤ lo, ∀ i, 0 ≤ (hi64 E).at i ∧ (hi64 E).at i < 256, l ≤ 140737488353900, (cInt .i64).enc (V q ((xs.drop 0).take l) E) = (cInt .i64).enc r, SV.o (.g ((putI (0 + k) [z] 0 D.to).map (int1 .u8))) = cB64.enc E, 0 + l ≤ xs.length, l ≤ lo, BOk q, BOk (hi64 E), l ≤ 140737488353900, (cInt .i64).enc (V q ((xs.drop 0).take l) E) = (cInt .i64).enc r, (r == r) = true])
  | 0, _ => by kernel_rfl
  | 1, _ => by kernel_rfl
  | 2, _ => by kernel_rfl
  | 3, _ => by kernel_rfl
  | 4, _ => by kernel_rfl
  | 5, _ => by kernel_rfl
  | 6, _ => by kernel_rfl
  | 7, _ => by kernel_rfl
  | j + 8, h => absurd h (by omega)
theorem t1 (Z : B32 → List Int → B64) (hZ : Z = sigV) (V : B32 → List Int → B64 → Int) (hV : V = verV) (a : Option Addr) (e : B32) (wh at_ : Int) (q : B32) (D : B64) (E : B32) (xs : List Int) (l lo k : Nat) (av z r : Int) (g : Nat → SV) : ∀ (s : Nat), s < 8 → outX (args a e wh at_ ).length (MZ a e wh at_ ) (exec (Γ Z hZ V hV) tys 100 T5 ⟨fill g 0 (MB a e wh at_ l), memB a e wh at_ q D xs lo none, [(25, [.n av]), (29, [.n 1]), (64, [.n (k : Int)]), (66, [.n (k : Int)]), (67, [.dyn]), (70, [.n (s : Int)]), (73, [.n z]), (74, [.dyn]), (75, [.s (cB32.enc E)]), (79, [.s (cB32.enc E)]), (78, [.s ((cInt .i64).enc r)]), (82, [.s ((cInt .i64).enc r)]), (83, [.b true])]⟩) = some (.ret, live (MZ a e wh at_ ), (MZ a e wh at_ ).length, args a e wh at_ , [uI at_ 512 = av, uI wh 3 = 1, IntKind.i64.wrap (av.tdiv 16) = (k : Int), IntKind.i64.wrap (av.tdiv 16) = (k : Int), 0 ≤ (k : Int), (k : Int) < 32, 0 + k < q.to.length, av.tmod 8 = (s : Int), bits .xor .u8 (q.to.getD (0 + k) 0) ((2 : Int) ^ s) = z, 0 ≤ (k : Int), (k : Int) < 32, 0 + k + 1 ≤ q.to.length, SV.o (.g ((putI (0 + k) [z] 0 q.to).map (int1 .u8))) = cB32.enc E, 0 + l ≤ xs.length, l ≤ lo, ∀ i, 0 ≤ (hi64 D).at i ∧ (hi64 D).at i < 256, l ≤ 140737488353900, (cInt .i64).enc (V E ((xs.drop 0).take l) D) = (cInt .i64).enc r, SV.o (.g ((putI (0 + k) [z] 0 q.to).map (int1 .u8))) = cB32.enc E, 0 + l ≤ xs.length, l ≤ lo, BOk E, BOk (hi64 D), l ≤ 140737488353900, (cInt .i64).enc (V E ((xs.drop 0).take l) D) = (cInt .i64).enc r, (r == r) = true])
  | 0, _ => by kernel_rfl
  | 1, _ => by kernel_rfl
  | 2, _ => by kernel_rfl
  | 3, _ => by kernel_rfl
  | 4, _ => by kernel_rfl
  | 5, _ => by kernel_rfl
  | 6, _ => by kernel_rfl
  | 7, _ => by kernel_rfl
  | j + 8, h => absurd h (by omega)
theorem t2 (Z : B32 → List Int → B64) (hZ : Z = sigV) (V : B32 → List Int → B64 → Int) (hV : V = verV) (a : Option Addr) (e : B32) (wh at_ : Int) (q : B32) (D : B64) (xs : List Int) (m lo j : Nat) (av z r : Int) (g : Nat → SV) : outX (args a e wh at_ ).length (MZ a e wh at_ ) (exec (Γ Z hZ V hV) tys 100 T5 ⟨fill g 0 (MB a e wh at_ (m + 1)), memB a e wh at_ q D xs lo none, [(25, [.n av]), (29, [.n 2]), (32, [.b true]), (37, [.n (j : Int)]), (42, [.n (j : Int)]), (45, [.n z]), (78, [.s ((cInt .i64).enc r)]), (82, [.s ((cInt .i64).enc r)]), (83, [.b true])]⟩) = some (.ret, live (MZ a e wh at_ ), (MZ a e wh at_ ).length, args a e wh at_ , [uI at_ 512 = av, uI wh 3 = 2, decide (((m + 1 : Nat) : Int) > 0) = true, av.tmod ((m + 1 : Nat) : Int) = (j : Int), av.tmod ((m + 1 : Nat) : Int) = (j : Int), 0 ≤ (j : Int), (j : Int) < ((m + 1 : Nat) : Int), 0 + j < xs.length, bits .xor .u8 (xs.getD (0 + j) 0) 1 = z, 0 ≤ (j : Int), (j : Int) < ((m + 1 : Nat) : Int), 0 + j + 1 ≤ xs.length, 0 + (m + 1) ≤ (putI (0 + j) [z] 0 xs).length, (m + 1) ≤ lo, ∀ i, 0 ≤ (hi64 D).at i ∧ (hi64 D).at i < 256, (m + 1) ≤ 140737488353900, (cInt .i64).enc (V q (((putI (0 + j) [z] 0 xs).drop 0).take (m + 1)) D) = (cInt .i64).enc r, 0 + (m + 1) ≤ (putI (0 + j) [z] 0 xs).length, (m + 1) ≤ lo, BOk q, BOk (hi64 D), (m + 1) ≤ 140737488353900, (cInt .i64).enc (V q (((putI (0 + j) [z] 0 xs).drop 0).take (m + 1)) D) = (cInt .i64).enc r, (r == r) = true]) := by kernel_rfl
theorem t3 (Z : B32 → List Int → B64) (hZ : Z = sigV) (V : B32 → List Int → B64 → Int) (hV : V = verV) (a : Option Addr) (e : B32) (wh at_ : Int) (q : B32) (D : B64) (xs : List Int) (l lo : Nat) (av r : Int) (g : Nat → SV) : outX (args a e wh at_ ).length (MZ a e wh at_ ) (exec (Γ Z hZ V hV) tys 100 T5 ⟨fill g 0 (MB a e wh at_ l), memB a e wh at_ q D xs lo none, [(25, [.n av]), (29, [.n 2]), (32, [.b false]), (78, [.s ((cInt .i64).enc r)]), (82, [.s ((cInt .i64).enc r)]), (83, [.b true])]⟩) = some (.ret, live (MZ a e wh at_ ), (MZ a e wh at_ ).length, args a e wh at_ , [uI at_ 512 = av, uI wh 3 = 2, decide ((l : Int) > 0) = false, 0 + l ≤ xs.length, l ≤ lo, ∀ i, 0 ≤ (hi64 D).at i ∧ (hi64 D).at i < 256, l ≤ 140737488353900, (cInt .i64).enc (V q ((xs.drop 0).take l) D) = (cInt .i64).enc r, 0 + l ≤ xs.length, l ≤ lo, BOk q, BOk (hi64 D), l ≤ 140737488353900, (cInt .i64).enc (V q ((xs.drop 0).take l) D) = (cInt .i64).enc r, (r == r) = true]) := by kernel_rfl
theorem zr (a : Option Addr) (e : B32) (wh at_ : Int) (g : Nat → SV) : eRes tys (fill g 0 (MZ a e wh at_ )) (fun k => (args a e wh at_ )[k]?) fn.results.toList = some [.a (bool1 true)] := by kernel_rfl
theorem one (a : Option Addr) (e : B32) (wh at_ : Int) (q : B32) (D : B64) {Post : Ex → List SV → List Blk → Prop} (hp : ∀ g lo, 0 ≤ lo → Post .normal (fill g 0 (MB a e wh at_ (0 + 0))) (memB a e wh at_ q D ([] ++ []) lo none)) (g : Nat → SV) :
    RunsL Tryz.prog G2 0 (opsOf R4) (opsOf R4).toList (fill g 0 (MA a e wh at_ )) (memA a e wh at_ q D) Post := by
  have _ := 0
  · refine RunsL.of_outX tys_ok 4 (e4 a e wh at_ q D g) ⟨rfl, by omega, trivial⟩ (idsB a e wh at_ _ _ _ _ _ _) rfl fun g => ?_
    refine RunsL.weak 3 (own := true) (ty := 5) (kd := .u8) (xs := [] ++ []) (lo := 0) (lo' := 0) (hi := some 1) rfl (Nat.le_refl _) ?_
    rw [nil4]
    exact RunsL.nil (hp g 0 (by omega))
theorem fin (a : Option Addr) (e : B32) (wh at_ : Int) (q : B32) (D : B64) (hq : BOk q) (hD : ∀ i, 0 ≤ D.at i ∧ D.at i < 256) (xs : List Int) (lo : Nat) (hx : xs.length = 0 + 0) (hlo : 0 + 0 ≤ lo) (hn : 0 ≤ 140737488353900) (g : Nat → SV) :
    RunsF Tryz.prog G2 0 T5 (fill g 0 (MB a e wh at_ (0 + 0))) (memB a e wh at_ q D xs lo none) (EndsM tys fn (endsQ (cBool.enc true) .none)) := by
  have hat := uI_bd at_ (m := 512) (by decide) (by decide)
  have hwh := uI_bd wh (m := 3) (by decide) (by decide)
  have hs : (uI at_ 512).tmod 8 = (((uI at_ 512 % 8).toNat : Nat) : Int) := by
    rw [Int.tmod_eq_emod_of_nonneg hat.1]
    omega
  have hs8 : (uI at_ 512 % 8).toNat < 8 := by omega
  have h3 : uI wh 3 = 0 ∨ uI wh 3 = 1 ∨ uI wh 3 = 2 := by omega
  rcases h3 with h | h | h
  · have hk : IntKind.i64.wrap ((uI at_ 512).tdiv 8) = (((uI at_ 512 / 8).toNat : Nat) : Int) := by
      rw [Int.tdiv_eq_ediv_of_nonneg hat.1, i64_small _ (by omega) (by omega)]
      omega
    have hk2 : (uI at_ 512 / 8).toNat < 64 := by omega
    have hl : D.to.length = 64 := rfl
    generalize (uI at_ 512 / 8).toNat = k at *
    generalize (uI at_ 512 % 8).toNat = s at *
    obtain ⟨E, hE1, hE2⟩ := put64 D hD (0 + k) (bits .xor .u8 (D.to.getD (0 + k) 0) ((2 : Int) ^ s)) (xor_byt _ _)
    exact Runs.of_outX tys_ok mixed (t0 sigV rfl verV rfl a e wh at_ q D E xs (0 + 0) lo k (uI at_ 512) _ (verV q ((xs.drop 0).take (0 + 0)) E) g s hs8) ⟨rfl, h, hk, hk, by omega, by omega, by omega, hs, rfl, by omega, by omega, by omega, by rw [hE1]; rfl, by omega, by omega, fun i => hi64_ok hE2 i, by omega, rfl, by rw [hE1]; rfl, by omega, by omega, hq, hi64_ok hE2, by omega, rfl, beq_self_eq_true _, trivial⟩ (idsZ a e wh at_ ) rfl fun g' => EndsM.ret (zr a e wh at_ g') rfl
  · have hk : IntKind.i64.wrap ((uI at_ 512).tdiv 16) = (((uI at_ 512 / 16).toNat : Nat) : Int) := by
      rw [Int.tdiv_eq_ediv_of_nonneg hat.1, i64_small _ (by omega) (by omega)]
      omega
    have hk2 : (uI at_ 512 / 16).toNat < 32 := by omega
    have hl : q.to.length = 32 := rfl
    generalize (uI at_ 512 / 16).toNat = k at *
    generalize (uI at_ 512 % 8).toNat = s at *
    obtain ⟨E, hE1, hE2⟩ := put32 q hq (0 + k) (bits .xor .u8 (q.to.getD (0 + k) 0) ((2 : Int) ^ s)) (xor_byt _ _)
    exact Runs.of_outX tys_ok mixed (t1 sigV rfl verV rfl a e wh at_ q D E xs (0 + 0) lo k (uI at_ 512) _ (verV E ((xs.drop 0).take (0 + 0)) D) g s hs8) ⟨rfl, h, hk, hk, by omega, by omega, by omega, hs, rfl, by omega, by omega, by omega, by rw [hE1]; rfl, by omega, by omega, fun i => hi64_ok hD i, by omega, rfl, by rw [hE1]; rfl, by omega, by omega, hE2, hi64_ok hD, by omega, rfl, beq_self_eq_true _, trivial⟩ (idsZ a e wh at_ ) rfl fun g' => EndsM.ret (zr a e wh at_ g') rfl
  · clear hs hs8
    exact Runs.of_outX tys_ok mixed (t3 sigV rfl verV rfl a e wh at_ q D xs (0 + 0) lo (uI at_ 512) (verV q ((xs.drop 0).take (0 + 0)) D) g) ⟨rfl, h, decide_eq_false (by omega), by omega, by omega, fun i => hi64_ok hD i, by omega, rfl, by omega, by omega, hq, hi64_ok hD, by omega, rfl, beq_self_eq_true _, trivial⟩ (idsZ a e wh at_ ) rfl fun g' => EndsM.ret (zr a e wh at_ g') rfl
theorem walk (a : Option Addr) (e : B32) (wh at_ : Int) : RunsF Tryz.prog G2 0 body (startT fn [cB32.enc e, .o (.a (.v (.slice a 0 0))), (cInt .i64).enc wh, (cInt .i64).enc at_]) (args a e wh at_ ) (EndsM tys fn (endsQ (cBool.enc true) .none)) := by
  refine Runs.of_outXP tys_ok mixed 3 (s0 sigV rfl verV rfl a e wh at_ (pubV e) (sigV e [])) ⟨rfl, rfl, trivial⟩ (idsA a e wh at_ _ _) rfl fun g => ?_
  rw [suf_eq]
  refine Runs.seq (Runs.region (one a e wh at_ _ _ (fun g lo hlo => ?_) g))
  exact fin a e wh at_ _ _ (pub_pt e).ok (sig_all e _) _ lo (rfl) (by omega) (by omega) g
end v
end ltrn
theorem ltrn_ok (b : B32) (x0 : SArg) (wh at_ : Int) (W : World) (hb : BOk b) (h0 : x0.ok .u8 W) (hw : (Lit.int .i64 wh).wf = true) (ha : (Lit.int .i64 at_).wf = true) (b0 : x0.ints.length ≤ 140737488351232) (hg : GlobOk G2 W) :
    Calls Tryz.prog 4 #[(cB32.enc b).den lam0, x0.val, .int .i64 wh, .int .i64 at_] W fun e W' => e = .returned (.bool true) ∧ Below W.heap.size W W' := by
  refine law_mix tys_ok Tryz.func4 (c := ltrn.body) (by kernel_rfl) hg .u8 [cB32.enc b] [x0] [(cInt .i64).enc wh, (cInt .i64).enc at_] (fun v hv => by simp only [List.mem_cons, List.not_mem_nil, or_false] at hv; rw [hv]; exact cB32.ids _) (fun v hv => by simp only [List.mem_cons, List.not_mem_nil, or_false] at hv; rcases hv with rfl | rfl <;> rfl) (fun y hy => by simp only [List.mem_cons, List.not_mem_nil, or_false] at hy; rcases hy with rfl; assumption) (r := cBool.enc true) rfl fun hi => ?_
  cases x0 with
  | none a0 => exact ltrn.v.walk a0 b wh at_
  | win y0 n0 c0 ty0 L0 => exact ltrn.w.walk y0 n0 _ ty0 b wh at_ hi.1.1 (by have := hi.1.1; have b : y0.length ≤ 140737488351232 := b0; omega) hi.1.2
end Go.Proofs.YthbhmmndggkmaaaGreatDoor

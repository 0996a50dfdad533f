/- Rows of nodes as values; bytes.Compare: contract. -/
import Derived.Test.YthlmepolmemejaaDoorDTrG
import Derived.Lib.BytesEntry
import Derived.Laws.Externs
namespace Go.Proofs.YthlmepolmemejaaDoor
open Go Go.Eng Go.RowKit
set_option linter.unusedVariables false
set_option linter.unusedSimpArgs false
set_option maxRecDepth 100000
section
variable {α : Type} {f : α → List Value} {s : Nat}
theorem flat_len (hf : ∀ x, (f x).length = s) : ∀ l : List α, (l.flatMap f).length = l.length * s
  | [] => by simp
  | x :: r => by rw [List.flatMap_cons, List.length_append, hf, flat_len hf r, List.length_cons, Nat.add_mul, Nat.one_mul, Nat.add_comm]
theorem flat_drop (hf : ∀ x, (f x).length = s) : ∀ (l : List α) (i : Nat), (l.flatMap f).drop (i * s) = (l.drop i).flatMap f
  | l, 0 => by simp
  | [], i + 1 => by simp
  | x :: r, i + 1 => by rw [List.flatMap_cons, Nat.add_mul, Nat.one_mul, Nat.add_comm, List.drop_append, hf, List.drop_eq_nil_of_le (by rw [hf]; omega), Nat.add_sub_cancel_left, List.nil_append, flat_drop hf r i]; rfl
theorem takeV_eq (vs : List Value) : ∀ (n o : Nat), o + n ≤ vs.length → takeV vs o n = ((vs.drop o).take n).map Atom.v
  | 0, _, _ => by simp [takeV]
  | n + 1, o, h => by
    have ho : o < vs.length := by omega
    rw [takeV, takeV_eq vs n (o + 1) (by omega), List.drop_eq_getElem_cons ho, List.take_succ_cons, List.map_cons]
    congr 2
    simp [List.getD, List.getElem?_eq_getElem (show o < vs.length by omega)]
theorem takeV_flat (hf : ∀ x, (f x).length = s) (l : List α) (d : α) {i : Nat} (o n : Nat) (hi : i < l.length) (ho : o + n ≤ s) : takeV (l.flatMap f) (i * s + o) n = (((f (l.getD i d)).drop o).take n).map Atom.v := by
  have hl := flat_len hf l
  have h1 : (i + 1) * s ≤ l.length * s := Nat.mul_le_mul_right _ hi
  rw [Nat.add_mul, Nat.one_mul] at h1
  rw [takeV_eq _ _ _ (by omega), ← List.drop_drop, flat_drop hf, List.drop_eq_getElem_cons hi, List.flatMap_cons]
  have e : l.getD i d = l[i] := by simp [List.getD, List.getElem?_eq_getElem hi]
  rw [e, List.drop_append_of_le_length (by rw [hf]; omega), List.take_append_of_le_length (by rw [List.length_drop, hf]; omega)]
end
def Nd.vals (n : Nd) : List Value := .int .i64 n.len :: (n.pre.to ++ n.hash.to).map (Value.int .u8)
def Lf.vals (l : Lf) : List Value := (l.lab.to ++ l.val.to).map (Value.int .u8)
def bvals (b : B32) : List Value := b.to.map (Value.int .u8)
theorem bvals_len (b : B32) : (bvals b).length = 32 := rfl
abbrev wvals (l : List B32) : List Value := l.flatMap bvals
theorem wvals_len (l : List B32) : (wvals l).length = l.length * 32 := flat_len bvals_len l
theorem wvals_app (a b : List B32) : wvals (a ++ b) = wvals a ++ wvals b := by simp [wvals]
theorem offs (i s : Nat) : 0 + offI 0 (i : Int) s = i * s := by
  rw [offI_eq]
  simp
theorem ld_lab (l : List B32) {i : Nat} (hi : i < l.length) : SV.o (.g (takeV (wvals l) (i * 32) 32)) = cB32.enc (l.getD i zB) := by
  have h := takeV_flat bvals_len l zB 0 32 hi (by omega)
  rw [Nat.add_zero] at h
  rw [h, List.drop_zero, List.take_of_length_le (by rw [bvals_len]; omega)]
  rfl
theorem cB32_dec (b : B32) : cB32.dec (.o (.g (cB32.row b))) = some b := rfl
theorem srcI_cells {G : Glob} {N : Nat} {w0 : Base G} {m : PM} {x : SV} {ys : List Int} {n : Nat} {c : Cst} {β : Nat → Eng.Loc} {w : World} (hm : MemR N w0 m β w) (h : srcI m .u8 x = some (ys, n, c)) (hc : Holds c) {P : Program} :
    (Extern.Bytes.bytesOf (x.den β)).run P w = .ok ⟨(Lib.bytesOf ys).toArray⟩ w := by
  unfold srcI at h
  split at h
  · rename_i k b o n0 hv
    split at h <;> try cases h
    rename_i bl hb
    split at h <;> try cases h
    rename_i kd' xs hi
    split at h <;> cases h
    rename_i hk
    subst hk
    obtain ⟨hle, _⟩ := hc
    have hlen : ((xs.drop o).take n).length = n := by simp; omega
    obtain ⟨cap, hden⟩ := viewOf_den hv β
    rw [hden]
    obtain ⟨fr, pre0, C, hh, hp0, hC, _⟩ := hm.blk k bl hb
    obtain ⟨pre, post, hCe, hpre⟩ := Row.ints_spec hi hC
    have hcell : ∀ j z, ((xs.drop o).take n)[j]? = some z → w.cell? (((β k).at (b + o)).add j) = some (.int .u8 z) := fun j z hj => by
      rw [Loc.at_add, cell_at hh hp0, hCe, List.getElem?_append_right (by omega), List.getElem?_append_left (by
        rw [intV_length]
        rw [List.getElem?_take] at hj
        split at hj
        · omega
        · cases hj)]
      rw [List.getElem?_take] at hj
      split at hj
      · rw [List.getElem?_drop] at hj
        unfold intV
        rw [List.getElem?_map, show b + o + j - pre.length = o + j by omega, hj]
        rfl
      · cases hj
    have hr := Lib.run_loadBytesX (P := P) w ((xs.drop o).take n) ((β k).at (b + o)) .empty hcell
    rw [hlen] at hr
    show (Extern.Bytes.loadBytes ((β k).at (b + o)) n .empty).run P w = _
    rw [hr]
    simp
  · split at h <;> cases h
    rename_i a n0 c0
    cases a with
    | none => rfl
    | some a => rfl
noncomputable def cmpI (xs ys : List Int) : Int := Lib.compareBytes (Lib.bytesOf xs) (Lib.bytesOf ys)
noncomputable def cmpx_con {G : Glob} : Con Tryd.prog G where
  f := 32
  spec := fun m _ args => match args with
    | [x, y] => match srcI m .u8 x, srcI m .u8 y with
      | some (a, _, c1), some (b, _, c2) => some (.o (.a (int1 .i64 (cmpI a b))), .none, c1 ++ c2)
      | _, _ => none
    | _ => none
  ok := fun m fr args r e c N w0 β w h hc hm hf0 hids => by
    split at h <;> try cases h
    rename_i x y
    split at h <;> cases h
    rename_i a n1 c1 b n2 c2 h1 h2
    obtain ⟨hc1, hc2⟩ := holds_append hc
    refine .inr ⟨β, w, ?_, fun _ _ => rfl, hm, fun k hk => by cases hk⟩
    rw [run_callFunc_extern Tryd.func32 (by kernel_rfl) (by kernel_rfl) (by kernel_rfl) (e := Extern.BytealgCompare.compare) (by kernel_rfl)]
    have e1 := srcI_cells (P := Tryd.prog) hm h1 hc1
    have e2 := srcI_cells (P := Tryd.prog) hm h2 hc2
    show ((do pure (goInt (Extern.BytealgCompare.cmp (← Extern.Bytes.bytesOf (x.den β)) (← Extern.Bytes.bytesOf (y.den β)))) : Sem Value).run Tryd.prog w).andThen _ = _
    simp only [Sem.run_bind, e1, e2, Result.andThen_ok, Sem.run_pure]
    rw [Lib.cmp_eq]
    rfl
  loc := fun m m' fr fr' args r e c hm hd h hn => by
    split at h <;> try cases h
    rename_i x y
    show (match srcI m' .u8 x, srcI m' .u8 y with
      | some (a, _, c1), some (b, _, c2) => some (SV.o (.a (int1 .i64 (cmpI a b))), Eff.none, c1 ++ c2)
      | _, _ => none) = _
    rw [srcI_congr (hm x (by simp)), srcI_congr (hm y (by simp))]
    exact h
  upd := fun m fr args r k row c h => by
    split at h <;> try cases h
    split at h <;> cases h
theorem u8_lt {x y : Int} (hx : Byte x) (hy : Byte y) : UInt8.ofNat x.toNat < UInt8.ofNat y.toNat ↔ x < y := by
  obtain ⟨_, _⟩ := hx
  obtain ⟨_, _⟩ := hy
  rw [UInt8.lt_iff_toNat_lt]
  simp only [UInt8.toNat_ofNat']
  omega
theorem cmp_neg : ∀ (xs ys : List Int), xs.length = ys.length → (∀ x ∈ xs, Byte x) → (∀ y ∈ ys, Byte y) →
    (cmpI xs ys < 0 ↔ ∃ j, j < xs.length ∧ (∀ i, i < j → xs.getD i 0 = ys.getD i 0) ∧ xs.getD j 0 < ys.getD j 0)
  | [], [], _, _, _ => by simp [cmpI, Lib.compareBytes, Lib.bytesOf]
  | [], _ :: _, h, _, _ => by simp at h
  | _ :: _, [], h, _, _ => by simp at h
  | x :: xs, y :: ys, h, hx, hy => by
    have ih := cmp_neg xs ys (by simpa using h) (fun z hz => hx z (by simp [hz])) (fun z hz => hy z (by simp [hz]))
    have h1 := u8_lt (hx x (by simp)) (hy y (by simp))
    have h2 := u8_lt (hy y (by simp)) (hx x (by simp))
    have e : cmpI (x :: xs) (y :: ys) = if UInt8.ofNat x.toNat < UInt8.ofNat y.toNat then -1 else if UInt8.ofNat y.toNat < UInt8.ofNat x.toNat then 1 else cmpI xs ys := rfl
    rw [e]
    by_cases a : x < y
    · rw [if_pos (h1.2 a)]
      exact ⟨fun _ => ⟨0, by simp, fun i hi => absurd hi (by omega), by simpa using a⟩, fun _ => by omega⟩
    · rw [if_neg fun q => a (h1.1 q)]
      by_cases b : y < x
      · rw [if_pos (h2.2 b)]
        refine ⟨fun q => by omega, ?_⟩
        rintro ⟨j, _, q1, q2⟩
        cases j with
        | zero => simp at q2; omega
        | succ j => have := q1 0 (by omega); simp at this; omega
      · rw [if_neg fun q => b (h2.1 q), ih]
        have exy : x = y := by omega
        constructor
        · rintro ⟨j, q0, q1, q2⟩
          refine ⟨j + 1, by simpa using q0, fun i hi => ?_, by simpa using q2⟩
          cases i with
          | zero => simpa using exy
          | succ i => simpa using q1 i (by omega)
        · rintro ⟨j, q0, q1, q2⟩
          cases j with
          | zero => simp at q2; omega
          | succ j => exact ⟨j, by simpa using q0, fun i hi => by simpa using q1 (i + 1) (by omega), by simpa using q2⟩
noncomputable def cmpV (a b : B32) : Int := cmpI a.to b.to
theorem to_byte {b : B32} (h : BOk b) : ∀ y ∈ b.to, Byte y := fun y hy => by
  obtain ⟨i, hi, rfl⟩ := List.mem_iff_getElem.1 hy
  have hi' : i < 32 := hi
  have e := at_to b i hi'
  rw [List.getD_eq_getElem?_getD, List.getElem?_eq_getElem hi] at e
  have e : b.to[i] = b.at i := e
  exact e ▸ h i
theorem dtk {ys : List Int} {n : Nat} (h : ys.length = n) : (ys.drop 0).take n = ys := by rw [List.drop_zero, List.take_of_length_le (by omega)]
theorem cmpV_neg {a b : B32} (ha : BOk a) (hb : BOk b) : cmpV a b < 0 ↔ ltV a b = true := by
  unfold cmpV
  rw [cmp_neg a.to b.to rfl (to_byte ha) (to_byte hb)]
  constructor
  · rintro ⟨j, q0, q1, q2⟩
    have hj : j < 32 := q0
    rw [at_to a j hj, at_to b j hj] at q2
    rw [← lt_byte ha hb hj (fun i hi => by have := q1 i hi; rwa [at_to a i (by omega), at_to b i (by omega)] at this) (by omega)]
    exact decide_eq_true q2
  · intro h
    apply Classical.byContradiction
    intro hn
    have key : ∀ j, j ≤ 32 → ∀ i, i < j → a.at i = b.at i := by
      intro j
      induction j with
      | zero => intro _ i hi; omega
      | succ j ih =>
        intro hj i hi
        rcases Nat.lt_or_ge i j with h1 | h1
        · exact ih (by omega) i h1
        · obtain rfl : i = j := by omega
          apply Classical.byContradiction
          intro hne
          have hl := lt_byte ha hb (show i < 32 by omega) (ih (by omega)) hne
          rw [h, decide_eq_true_eq] at hl
          exact hn ⟨i, by show i < 32; omega, fun k hk => by rw [at_to a k (by omega), at_to b k (by omega)]; exact ih (by omega) k hk, by rw [at_to a i (by omega), at_to b i (by omega)]; exact hl⟩
    obtain rfl := b32_ext (key 32 (Nat.le_refl _))
    rw [lt_irrefl] at h
    cases h
namespace bcmp
noncomputable abbrev fn := Tryd.f20
noncomputable def body : Code := bodyOf fn
noncomputable def Γ {G : Glob} : Cons Tryd.prog G := [cmpx_con]
def M (r : Int) : List (Option SV) := maskL 8 0 [(4, .o (.a (int1 .i64 r)))]
def mem (xs ys : List Int) (t1 t2 : TypeId) : List Blk := [⟨false, t1, .pre .u8 xs⟩, ⟨false, t2, .pre .u8 ys⟩]
theorem ids (xs ys : List Int) (t1 t2 : TypeId) (r : Int) : idsIn (mem xs ys t1 t2).length (M r) (mem xs ys t1 t2) = true := by kernel_rfl
theorem s {G : Glob} (xs ys : List Int) (n1 n2 c1 c2 : Nat) (t1 t2 : TypeId) (r : Int) : outX (mem xs ys t1 t2).length (M r) (exec (Γ (G := G)) tys 100 body ⟨startT fn [.o (.a (.sld 0 0 0 n1 c1)), .o (.a (.sld 1 0 0 n2 c2))], mem xs ys t1 t2, [(7, [.n r])]⟩) = some (.ret, live (M r), (M r).length, mem xs ys t1 t2, [0 + n1 ≤ xs.length, 0 + n2 ≤ ys.length, cmpI ((xs.drop 0).take n1) ((ys.drop 0).take n2) = r]) := by kernel_rfl
theorem zr (r : Int) (xs ys : List Int) (t1 t2 : TypeId) (g : Nat → SV) : eRes tys (fill g 0 (M r)) (fun k => (mem xs ys t1 t2)[k]?) fn.results.toList = some [.a (int1 .i64 r)] := by kernel_rfl
theorem run {G : Glob} (xs ys : List Int) (n1 n2 c1 c2 : Nat) (t1 t2 : TypeId) (h1 : xs.length = n1) (h2 : ys.length = n2) : RunsF Tryd.prog G 2 body (startT fn [.o (.a (.sld 0 0 0 n1 c1)), .o (.a (.sld 1 0 0 n2 c2))]) (mem xs ys t1 t2) (EndsM tys fn (endsQ (.o (.a (int1 .i64 (cmpI xs ys)))) .none)) :=
  Runs.of_outX tys_ok mixed (s xs ys n1 n2 c1 c2 t1 t2 (cmpI xs ys)) ⟨by omega, by omega, by rw [dtk h1, dtk h2], trivial⟩ (ids _ _ _ _ _) rfl fun g => EndsM.ret (zr _ _ _ _ _ g) rfl
noncomputable def spec : List PArg → Option (SV × LEff × Cst)
  | [.win .u8 xs n t, .win .u8 ys m u] => some (.o (.a (int1 .i64 (cmpI xs ys))), .none, [])
  | _ => none
noncomputable def con {G : Glob} : Con Tryd.prog G := Con.parts tys_ok 20 fn Tryd.func20 (by kernel_rfl) (c := body) (by kernel_rfl) [.win .u8, .win .u8] spec
  (fun ps r e p h hp => by
    unfold spec at h
    split at h <;> cases h
    refine ⟨rfl, fun b hb => ?_⟩
    simp only [locBlks, PArg.blk, List.cons_append, List.nil_append, List.mem_cons, List.not_mem_nil, or_false] at hb
    rcases hb with rfl | rfl <;> rfl)
  (fun ps r e p cap h hp hi => by
    unfold spec at h
    split at h <;> cases h
    obtain ⟨⟨h1, _⟩, ⟨h2, _⟩, _⟩ := hi
    exact run _ _ _ _ _ _ _ _ h1 h2)
end bcmp
end Go.Proofs.YthlmepolmemejaaDoor

/- The executor: contracts of callees that are handed a list of slices; blocks of the arguments, opened one by one. -/
import Derived.Test.YthlmepolmemejaaDoorDEngY
namespace Go.Eng
open Go.RowKit
set_option linter.unusedVariables false
set_option linter.unusedSimpArgs false
inductive Itm where
  | w (x : Win)
  | v (a : Value)
def Itm.ys : Itm → List Int
  | .w x => x.ys
  | .v _ => []
def Itm.isW : Itm → Bool
  | .w _ => true
  | .v _ => false
def winsI : List Itm → List Win
  | [] => []
  | .w x :: r => x :: winsI r
  | .v _ :: r => winsI r
def cstI : List Itm → Cst
  | [] => []
  | .w x :: r => x.cst ++ cstI r
  | .v _ :: r => cstI r
def shapeI : List Itm → List Bool
  | [] => []
  | x :: r => x.isW :: shapeI r
def ysI : List Itm → List (List Int)
  | [] => []
  | x :: r => x.ys :: ysI r
def locI : Nat → List Itm → List Atom
  | _, [] => []
  | i, .w x :: r => .slg i x.n :: locI (i + 1) r
  | i, .v a :: r => .v a :: locI i r
def bl2 : List Bool → List Bool → Bool
  | [], [] => true
  | true :: r, true :: s => bl2 r s
  | false :: r, false :: s => bl2 r s
  | _, _ => false
theorem bl2_eq : ∀ {a b : List Bool}, bl2 a b = true → a = b
  | [], [], _ => rfl
  | true :: r, true :: s, h => by rw [bl2_eq (a := r) (b := s) h]
  | false :: r, false :: s, h => by rw [bl2_eq (a := r) (b := s) h]
  | [], _ :: _, h => by simp [bl2] at h
  | _ :: _, [], h => by simp [bl2] at h
  | true :: _, false :: _, h => by simp [bl2] at h
  | false :: _, true :: _, h => by simp [bl2] at h
def itmsOf (m : PM) (kd : IntKind) : List Atom → Option (List Itm × List Ent3)
  | [] => some ([], [])
  | a :: r => match itmsOf m kd r with
    | some (its, qs) => match a with
      | .v (.slice p 0 c) => some (.v (.slice p 0 c) :: its, qs)
      | a => match winOf m kd (.o (.a a)) with
        | some (x, q) => some (.w x :: its, q :: qs)
        | none => none
    | none => none
def ItmOk (m : PM) (kd : IntKind) (x : Win) (q : Ent3) : Prop :=
  x.ys.length = x.n ∧ ∃ bm base xs o, m q.1 = some bm ∧ bm.ty = x.ty ∧ bm.row.ints base = some (kd, xs) ∧ q.2.1 = base + o ∧ o + x.ys.length ≤ xs.length ∧ x.ys = (xs.drop o).take x.ys.length
theorem itmsOf_spec {m : PM} {kd : IntKind} : ∀ (cs : List Atom) (i : Nat) {its : List Itm} {qs : List Ent3} (_ : itmsOf m kd cs = some (its, qs)) (_ : Holds (cstI its)),
    qs.length = (winsI its).length ∧ (∀ (j : Nat) (x : Win), (winsI its)[j]? = some x → ∃ q, qs[j]? = some q ∧ ItmOk m kd x q) ∧
    ∀ (β : Nat → Loc) (κ σ : Nat → Nat) (χ : Nat → Option Nat), (∀ (j : Nat) (q : Ent3), qs[j]? = some q → κ (i + j) = q.1 ∧ σ (i + j) = q.2.1 ∧ χ (i + j) = q.2.2) → cs.map (Atom.den β) = (locI i its).map (Atom.den (handB β κ σ χ))
  | [], i, its, qs, h, hc => by
    simp only [itmsOf, Option.some.injEq, Prod.mk.injEq] at h
    obtain ⟨rfl, rfl⟩ := h
    exact ⟨rfl, fun j x hx => by simp [winsI] at hx, fun _ _ _ _ _ => rfl⟩
  | a :: r, i, its, qs, h, hc => by
    unfold itmsOf at h
    split at h <;> try cases h
    rename_i its' qs' hr
    split at h
    · rename_i p c
      cases h
      obtain ⟨h1, h2, h3⟩ := itmsOf_spec r i hr hc
      exact ⟨h1, h2, fun β κ σ χ hk => by simp only [List.map_cons, locI]; rw [h3 β κ σ χ hk]; rfl⟩
    · split at h <;> cases h
      rename_i x q hw
      obtain ⟨hc1, hc2⟩ := holds_append hc
      obtain ⟨h1, h2, h3⟩ := itmsOf_spec r (i + 1) hr hc2
      obtain ⟨g1, g2, g3, g4⟩ := winOf_spec hw hc1
      refine ⟨by simp [winsI, h1], fun j y hy => ?_, fun β κ σ χ hk => ?_⟩
      · cases j with
        | zero => simp only [winsI, List.getElem?_cons_zero, Option.some.injEq] at hy; subst hy; exact ⟨q, rfl, g1, g3⟩
        | succ j => exact h2 j y (by simpa [winsI] using hy)
      · simp only [List.map_cons, locI]
        rw [h3 β κ σ χ fun j q' hq => by have := hk (j + 1) q' (by simpa using hq); rwa [show i + 1 + j = i + (j + 1) by omega]]
        congr 1
        obtain ⟨k1, k2, k3⟩ := hk 0 q rfl
        have := g4 β
        rw [show SV.den β (.o (.a a)) = a.den β from rfl] at this
        rw [this]
        simp only [Atom.den, handB, Nat.add_zero] at k1 k2 k3 ⊢
        rw [k1, k2, k3]
theorem itmsOf_ids {m : PM} {kd : IntKind} : ∀ (cs : List Atom) {its : List Itm} {qs : List Ent3}, itmsOf m kd cs = some (its, qs) → ∀ q ∈ qs, (m q.1).isSome = true
  | [], its, qs, h, q, hq => by
    simp only [itmsOf, Option.some.injEq, Prod.mk.injEq] at h
    obtain ⟨rfl, rfl⟩ := h
    cases hq
  | a :: r, its, qs, h, q, hq => by
    unfold itmsOf at h
    split at h <;> try cases h
    rename_i its' qs' hr
    split at h
    · cases h
      exact itmsOf_ids r hr q hq
    · split at h <;> cases h
      rename_i x q' hw
      rcases List.mem_cons.1 hq with rfl | hq
      · unfold winOf at hw
        split at hw <;> try cases hw
        split at hw <;> try cases hw
        rename_i bl hb
        split at hw <;> try cases hw
        split at hw <;> cases hw
        simp [hb]
      · exact itmsOf_ids r hr q hq
theorem itmsOf_congr {m m' : PM} {kd : IntKind} : ∀ (cs : List Atom), (∀ k ∈ idsAll cs, m' k = m k) → itmsOf m' kd cs = itmsOf m kd cs
  | [], _ => rfl
  | a :: r, h => by
    simp only [itmsOf]
    rw [itmsOf_congr r fun k hk => h k (by simp [idsAll, hk])]
    have hw : winOf m' kd (.o (.a a)) = winOf m kd (.o (.a a)) := winOf_congr fun k hk => h k (by simp only [idsAll, List.mem_append]; exact .inl hk)
    split
    · split
      · rfl
      · rw [hw]
    · rfl
theorem locI_ids : ∀ (its : List Itm) (i : Nat), ∀ k ∈ idsAll (locI i its), k < i + (winsI its).length
  | [], i, k, hk => by cases hk
  | .w x :: r, i, k, hk => by
    simp only [locI, idsAll, Atom.ids, List.mem_append, List.mem_singleton] at hk
    simp only [winsI, List.length_cons]
    rcases hk with rfl | hk
    · omega
    · have := locI_ids r (i + 1) k hk; omega
  | .v a :: r, i, k, hk => by
    simp only [locI, idsAll, Atom.ids, List.nil_append] at hk
    exact locI_ids r i k hk
structure LstA where
  its : List Itm
  n : Nat
  ty : TypeId
def blksL (kd : IntKind) (x : LstA) : List Blk := ⟨false, x.ty, .lit (locI 1 x.its)⟩ :: (winsI x.its).map fun y => ⟨false, y.ty, .pre kd y.ys⟩
theorem blksL_own {kd : IntKind} {x : LstA} : ∀ b ∈ blksL kd x, b.own = false := by
  intro b hb
  simp only [blksL, List.mem_cons, List.mem_map] at hb
  rcases hb with rfl | ⟨y, _, rfl⟩ <;> rfl
def lstOf (m : PM) (kd : IntKind) (shp : List Bool) (args : List SV) : Option (LstA × List Ent3) :=
  match args with
  | [.o (.a (.slc k 0 n c))] => match Nat.beq c n, m k with
    | true, some ⟨_, ty, .lit cs⟩ => match itmsOf m kd cs with
      | some (its, qs) => match bl2 (shapeI its) shp && Nat.beq n shp.length with
        | true => some (⟨its, n, ty⟩, (k, 0, none) :: qs)
        | false => none
      | none => none
    | _, _ => none
  | _ => none
theorem lstOf_inv {m : PM} {kd : IntKind} {shp : List Bool} {args : List SV} {x : LstA} {κ : List Ent3} (h : lstOf m kd shp args = some (x, κ)) :
    ∃ k own cs qs, args = [.o (.a (.slc k 0 x.n x.n))] ∧ m k = some ⟨own, x.ty, .lit cs⟩ ∧ itmsOf m kd cs = some (x.its, qs) ∧ shapeI x.its = shp ∧ x.n = shp.length ∧ κ = (k, 0, none) :: qs := by
  unfold lstOf at h
  split at h <;> try cases h
  rename_i k n c
  split at h <;> try cases h
  rename_i own ty cs hcn hm
  split at h <;> try cases h
  rename_i its qs hi
  split at h <;> cases h
  rename_i hs
  simp only [Bool.and_eq_true] at hs
  have := Nat.eq_of_beq_eq_true hcn
  subst this
  exact ⟨k, own, cs, qs, rfl, hm, hi, bl2_eq hs.1, Nat.eq_of_beq_eq_true hs.2, rfl⟩
theorem getD_succ {α : Type} (a : α) (l : List α) (j : Nat) (d : α) : (a :: l).getD (1 + j) d = l.getD j d := by
  rw [Nat.add_comm]; rfl
def Dec.list (P : Program) (kd : IntKind) (shp : List Bool) (res : List (List Int) → SV) (eff : List (List Int) → LEff) (pre : List (List Int) → Cst)
    (good : ∀ ls, match eff ls with | .none => (res ls).ids = [] | .new _ row => row.ids = [] | .upd _ _ => False) : Dec P LstA where
  largs x := [.o (.a (.slc 0 0 x.n x.n))]
  lblks x := blksL kd x
  res x := res (ysI x.its)
  eff x := eff (ysI x.its)
  pre x := cstI x.its ++ pre (ysI x.its)
  inv x := shapeI x.its = shp ∧ x.n = shp.length ∧ ∀ y ∈ winsI x.its, y.ys.length = y.n
  dec m args := lstOf m kd shp args
  ok m args x κ h hc := by
    obtain ⟨k, own, cs, qs, rfl, hmk, hi, hs, hn, rfl⟩ := lstOf_inv h
    obtain ⟨h1, h2, h3⟩ := itmsOf_spec cs 1 hi (holds_append hc).1
    have hk : ∀ j q, qs[j]? = some q → (((k, 0, none) :: qs).getD (1 + j) ((0, 0, none) : Ent3)).1 = q.1 ∧ (((k, 0, none) :: qs).getD (1 + j) ((0, 0, none) : Ent3)).2.1 = q.2.1 ∧ (((k, 0, none) :: qs).getD (1 + j) ((0, 0, none) : Ent3)).2.2 = q.2.2 := fun j q hq => by
      rw [getD_succ, List.getD, hq]
      exact ⟨rfl, rfl, rfl⟩
    refine ⟨⟨hs, hn, fun y hy => ?_⟩, ⟨?_, ?_⟩, fun β => ?_⟩
    · obtain ⟨j, hj⟩ := List.mem_iff_getElem?.1 hy
      obtain ⟨q, _, g, _⟩ := h2 j y hj
      exact g
    · intro i b hb
      cases i with
      | zero =>
        simp only [blksL, List.getElem?_cons_zero, Option.some.injEq] at hb
        subst hb
        refine ⟨_, hmk, rfl, .inr ⟨rfl, rfl, rfl, fun β n C hC => ?_, fun j hj => ?_⟩⟩
        · show C = _
          have hC : C = cs.map (Atom.den β) := hC
          rw [hC]
          exact h3 β _ _ _ hk
        · have := locI_ids x.its 1 j hj
          simp only [blksL, List.length_cons, List.length_map]
          omega
      | succ i =>
        simp only [blksL, List.getElem?_cons_succ, List.getElem?_map] at hb
        obtain ⟨y, hy, rfl⟩ := Option.map_eq_some_iff.1 hb
        obtain ⟨q, hq, g1, bm, base, xs, o, g2, g3, g4, g5, g6, g7⟩ := h2 i y hy
        have hq' : ((k, 0, none) :: qs).getD (i + 1) ((0, 0, none) : Ent3) = q := by
          show qs.getD i _ = q
          rw [List.getD, hq]; rfl
        refine ⟨bm, ?_, g3, .inl ⟨rfl, .inr (.inl ⟨rfl, kd, y.ys, base, xs, o, rfl, g4, ?_, g6, g7⟩)⟩⟩
        · rw [hq']; exact g2
        · rw [hq']; exact g5
    · intro i j b c hb hc ho
      have := blksL_own b (List.mem_of_getElem? hb)
      rw [this] at ho; cases ho
    · simp [SV.den, SV1.den, Atom.den, handB, Loc.at]
  sm m args x κ h i hi := by
    obtain ⟨k, own, cs, qs, rfl, hmk, hii, hs, hn, rfl⟩ := lstOf_inv h
    cases i with
    | zero => simp [hmk]
    | succ i =>
      show (m (qs.getD i (0, 0, none)).1).isSome = true
      have hlen : qs.length = (winsI x.its).length := by
        clear hi hs hn h hmk
        generalize hq : x.its = its at hii
        clear hq
        induction cs generalizing its qs with
        | nil => simp only [itmsOf, Option.some.injEq, Prod.mk.injEq] at hii; obtain ⟨rfl, rfl⟩ := hii; rfl
        | cons a r ih =>
          unfold itmsOf at hii
          split at hii <;> try cases hii
          rename_i its' qs' hr
          split at hii
          · cases hii; exact ih (qs := qs) (its := its') hr
          · split at hii <;> cases hii
            simp [winsI, ih (qs := qs') (its := its') hr]
      have hi' : i < qs.length := by
        simp only [blksL, List.length_cons, List.length_map] at hi
        omega
      rw [List.getD, List.getElem?_eq_getElem hi']
      exact itmsOf_ids cs hii _ (List.getElem_mem hi')
  loc m m' args h hd := by
    unfold lstOf
    split
    · rename_i k n c
      have hk : m' k = m k := h (.o (.a (.slc k 0 n c))) (by simp) k (by simp [SV.ids, SV1.ids, Atom.ids])
      rw [hk]
      split
      · rename_i own ty cs hcn hm
        rw [itmsOf_congr cs fun j hj => hd (.o (.a (.slc k 0 n c))) (by simp) k (by simp [SV.ids, SV1.ids, Atom.ids]) _ hm j hj]
      · rfl
    · rfl
  ids x y hy k hk := by
    simp only [List.mem_singleton] at hy
    subst hy
    simp only [SV.ids, SV1.ids, Atom.ids, List.mem_singleton] at hk
    subst hk
    simp [blksL]
  good x := by
    have hg := good (ysI x.its)
    generalize eff (ysI x.its) = e at hg
    cases e with
    | none => exact ⟨hg, blksL_own⟩
    | upd ty r => exact hg.elim
    | new ty r => exact ⟨hg, blksL_own⟩
structure GroA where
  xs : List Int
  n : Nat
  lo : Nat
  hi : Option Nat
  ty : TypeId
  k : IntKind
  v : Int
def groOf (m : PM) (kd : IntKind) (inPl : Bool) (args : List SV) : Option (GroA × List Ent3) :=
  match args with
  | [.o (.a (.slg k n)), .o (.a (.v (.int kv v)))] => match m k with
    | some ⟨true, ty, .gro kd' xs lo none⟩ => match inPl with
      | true => if kd' = kd then some (⟨xs, n, lo, none, ty, kv, v⟩, [(k, 0, none)]) else none
      | false => none
    | some ⟨true, ty, .gro kd' xs lo (some h)⟩ => match inPl with
      | false => if kd' = kd then some (⟨xs, n, lo, some h, ty, kv, v⟩, [(k, 0, none)]) else none
      | true => none
    | _ => none
  | _ => none
theorem groOf_inv {m : PM} {kd : IntKind} {inPl : Bool} {args : List SV} {x : GroA} {κ : List Ent3} (h : groOf m kd inPl args = some (x, κ)) :
    ∃ k, args = [.o (.a (.slg k x.n)), .o (.a (.v (.int x.k x.v)))] ∧ m k = some ⟨true, x.ty, .gro kd x.xs x.lo x.hi⟩ ∧ x.hi.isNone = inPl ∧ κ = [(k, 0, none)] := by
  unfold groOf at h
  split at h <;> try cases h
  rename_i k n kv v
  split at h <;> try cases h
  · rename_i ty kd' xs lo hm
    split at h <;> try cases h
    split at h <;> cases h
    rename_i hk
    subst hk
    exact ⟨k, rfl, hm, rfl, rfl⟩
  · rename_i ty kd' xs lo hh hm
    split at h <;> try cases h
    split at h <;> cases h
    rename_i hk
    subst hk
    exact ⟨k, rfl, hm, rfl, rfl⟩
def Dec.gro (P : Program) (kd : IntKind) (inPl : Bool) (res : GroA → SV) (eff : GroA → LEff) (pre : GroA → Cst)
    (good : ∀ x, match eff x with | .none => False | .new _ row => inPl = false ∧ row.ids = [] | .upd ty row => inPl = true ∧ ty = x.ty ∧ row.ids = [] ∧ ∀ k ∈ (res x).ids, k = 0) : Dec P GroA where
  largs x := [.o (.a (.slg 0 x.n)), .o (.a (.v (.int x.k x.v)))]
  lblks x := [⟨inPl, x.ty, .gro kd x.xs x.lo x.hi⟩]
  res := res
  eff := eff
  pre := pre
  inv x := x.hi.isNone = inPl
  dec m args := groOf m kd inPl args
  ok m args x κ h hc := by
    obtain ⟨k, rfl, hm, hh, rfl⟩ := groOf_inv h
    refine ⟨hh, ⟨?_, ?_⟩, fun β => ?_⟩
    · intro i b hb
      cases i with
      | zero =>
        simp only [List.getElem?_cons_zero, Option.some.injEq] at hb
        subst hb
        exact ⟨_, hm, rfl, .inl ⟨rfl, .inl ⟨rfl, rfl, fun _ _ _ h => h, fun _ => rfl⟩⟩⟩
      | succ i => simp at hb
    · intro i j b c hb hc ho he
      cases i with
      | zero => cases j with
        | zero => rfl
        | succ j => simp at hc
      | succ i => simp at hb
    · simp [SV.den, SV1.den, Atom.den, handB, Loc.at]
  sm m args x κ h i hi := by
    obtain ⟨k, rfl, hm, hh, rfl⟩ := groOf_inv h
    have hi0 : i = 0 := by simp at hi; exact hi
    subst hi0
    simp [hm]
  loc m m' args h hd := by
    unfold groOf
    split
    · rename_i k n kv v
      rw [h (.o (.a (.slg k n))) (by simp) k (by simp [SV.ids, SV1.ids, Atom.ids])]
    · rfl
  ids x y hy k hk := by
    simp only [List.mem_cons, List.not_mem_nil, or_false] at hy
    rcases hy with rfl | rfl
    · simp only [SV.ids, SV1.ids, Atom.ids, List.mem_singleton] at hk
      subst hk
      simp
    · cases hk
  good x := by
    have hg := good x
    generalize eff x = e at hg
    cases e with
    | none => exact hg.elim
    | upd ty r => exact ⟨hg.2.2.2, hg.2.2.1, ⟨_, rfl, hg.1, hg.2.1.symm⟩, fun i b hb => by simp at hb⟩
    | new ty r => exact ⟨hg.2, fun b hb => by simp at hb; rw [hb]; exact hg.1⟩
def Con.or {P : Program} {G : Glob} (a b : Con P G) (hf : b.f = a.f) (hfr : ∀ m fr fr' args, a.spec m fr args = none → a.spec m fr' args = none) : Con P G where
  f := a.f
  spec m fr args := match a.spec m fr args with
    | some r => some r
    | none => b.spec m fr args
  ok m fr args r e c N w0 β w h := by
    split at h
    · rename_i q hq
      cases h
      exact a.ok m fr args r e c N w0 β w hq
    · have := b.ok m fr args r e c N w0 β w h
      rw [hf] at this
      exact this
  loc m m' fr fr' args r e c hm hd h hn := by
    split at h
    · rename_i q hq
      cases h
      rw [a.loc m m' fr fr' args r e c hm hd hq hn]
    · rename_i hq
      have hno : a.spec m' fr' args = none := by
        cases hs : a.spec m' fr' args with
        | none => rfl
        | some q =>
          obtain ⟨r2, e2, c2⟩ := q
          have := a.loc m' m fr' fr' args r2 e2 c2 (fun x hx k hk => (hm x hx k hk).symm) (fun x hx k hk b hb j hj => (hd x hx k hk b (by rw [← hm x hx k hk]; exact hb) j hj).symm) hs (fun _ => rfl)
          rw [hfr m fr fr' args hq] at this
          cases this
      rw [hno]
      exact b.loc m m' fr fr' args r e c hm hd h hn
  upd m fr args r k row c h := by
    split at h
    · rename_i q hq
      cases h
      exact a.upd m fr args r k row c hq
    · exact b.upd m fr args r k row c h
theorem Con.hand_fr {G : Glob} {P : Program} {T : Ty} (hT : T.ok P) (f : FuncId) (fn : Func) (hf : P.funcs[f]? = some fn) (h1 : (fn.name == "runtime.NumGoroutine") = false) {c : Code} (hb : fn.body = some c) {ι : Type} (D : Dec P ι)
    (run : ∀ x, Holds (D.pre x) → D.inv x → RunsF P G (D.lblks x).length c (startT fn (D.largs x)) (D.lblks x) (EndsM T fn (endsQ (D.res x) (D.eff x)))) :
    ∀ m fr fr' args, (Con.hand (G := G) hT f fn hf h1 hb D run).spec m fr args = none → (Con.hand (G := G) hT f fn hf h1 hb D run).spec m fr' args = none := by
  intro m fr fr' args h
  simp only [Con.hand] at h ⊢
  split
  · rename_i x κ hx
    rw [hx] at h
    simp only at h
    split at h <;> cases h
  · rfl
theorem Con.parts_fr {G : Glob} {P : Program} {T : Ty} (hT : T.ok P) (f : FuncId) (fn : Func) (hf : P.funcs[f]? = some fn) (h1 : (fn.name == "runtime.NumGoroutine") = false) {c : Code} (hb : fn.body = some c) (pks : List PK)
    (spec : List PArg → Option (SV × LEff × Cst)) (good : ∀ ps r e p, spec ps = some (r, e, p) → Holds p → GoodE ps r e)
    (run : ∀ ps r e p cap, spec ps = some (r, e, p) → Holds p → invAll cap 0 ps → RunsF P G (locBlks ps).length c (startT fn (locArgs cap 0 ps)) (locBlks ps) (EndsM T fn (endsQ r e))) :
    ∀ m fr fr' args, (Con.parts (G := G) hT f fn hf h1 hb pks spec good run).spec m fr args = none → (Con.parts (G := G) hT f fn hf h1 hb pks spec good run).spec m fr' args = none := by
  intro m fr fr' args h
  simp only [Con.parts] at h ⊢
  cases hd : decL m [] pks args with
  | none => rfl
  | some q =>
    obtain ⟨ps, κ, c1⟩ := q
    rw [hd] at h
    simp only at h ⊢
    cases ha : apartL κ (locBlks ps) with
    | false => rfl
    | true =>
      cases hs : spec ps with
      | none => rfl
      | some q =>
        obtain ⟨r, e, p⟩ := q
        rw [ha, hs] at h
        simp only at h ⊢
        cases e with
        | none => cases h
        | upd ty row => exact h
        | new ty row => cases h
section
variable {G : Glob} {P : Program} {tm : List SV} {mem : List Blk} {Post : Ex → List SV → List Blk → Prop} {F : Nat}
end
end Go.Eng
namespace Go.Eng
open Go.RowKit
set_option linter.unusedVariables false
set_option linter.unusedSimpArgs false
section
variable {G : Glob} {P : Program} {Γ : Cons P G} {T : Ty} {c a b : Code} {tm tm' : List SV} {mem mem' : List Blk} {Post Post' : Ex → List SV → List Blk → Prop} {F : Nat}
end
def Atom.mov (k b o : Nat) : Atom → Atom
  | .sld _ b' o' n c => .sld k b (o + (b' + o')) n c
  | x => x
def SV1.mov (k b o : Nat) : SV1 → SV1
  | .a x => .a (x.mov k b o)
  | .g cs => .g (cs.map (Atom.mov k b o))
def SV.mov (k b o : Nat) : SV → SV
  | .o x => .o (x.mov k b o)
  | .t xs => .t (xs.map (SV1.mov k b o))
def Atom.part : Atom → Bool
  | .sld 0 _ _ _ _ => true
  | x => x.ids.isEmpty
def SV1.part : SV1 → Bool
  | .a x => x.part
  | .g cs => cs.all Atom.part
def SV.part : SV → Bool
  | .o x => x.part
  | .t xs => xs.all SV1.part
theorem Atom.mov_den {β β' : Nat → Loc} {k b o : Nat} (h0 : (β' 0).a = (β k).a) (h1 : (β' 0).s = (β k).s + (b + o)) : ∀ (x : Atom), x.part = true → x.den β' = (x.mov k b o).den β := fun x hx => by
  unfold Atom.part at hx
  split at hx
  · simp [Atom.mov, Atom.den, Loc.at, h0, h1, Nat.add_assoc]
  · have e : x.mov k b o = x := by
      unfold Atom.mov
      split
      · simp [Atom.ids] at hx
      · rfl
    rw [e]
    exact den_congr x fun i hi => by rw [List.isEmpty_iff.1 hx] at hi; cases hi
theorem SV1.mov_den {β β' : Nat → Loc} {k b o : Nat} (h0 : (β' 0).a = (β k).a) (h1 : (β' 0).s = (β k).s + (b + o)) (x : SV1) (hx : x.part = true) : x.den β' = (x.mov k b o).den β := by
  cases x with
  | a x => exact Atom.mov_den h0 h1 x hx
  | g cs =>
    simp only [SV1.den, SV1.mov, List.map_map]
    congr 2
    exact List.map_congr_left fun c hc => Atom.mov_den h0 h1 c (List.all_eq_true.1 hx c hc)
theorem SV.mov_den {β β' : Nat → Loc} {k b o : Nat} (h0 : (β' 0).a = (β k).a) (h1 : (β' 0).s = (β k).s + (b + o)) (x : SV) (hx : x.part = true) : x.den β' = (x.mov k b o).den β := by
  cases x with
  | o x => exact SV1.mov_den h0 h1 x hx
  | t xs =>
    simp only [SV.den, SV.mov, List.map_map]
    congr 2
    exact List.map_congr_left fun c hc => SV1.mov_den h0 h1 c (List.all_eq_true.1 hx c hc)
theorem Atom.mov_ids {k b o : Nat} : ∀ (x : Atom), x.part = true → ∀ i ∈ (x.mov k b o).ids, i = k := fun x hx i hi => by
  unfold Atom.part at hx
  split at hx
  · simpa [Atom.mov, Atom.ids] using hi
  · have e : x.mov k b o = x := by
      unfold Atom.mov
      split
      · simp [Atom.ids] at hx
      · rfl
    rw [e, List.isEmpty_iff.1 hx] at hi
    cases hi
theorem SV1.mov_ids {k b o : Nat} (x : SV1) (hx : x.part = true) : ∀ i ∈ (x.mov k b o).ids, i = k := fun i hi => by
  cases x with
  | a x => exact Atom.mov_ids x hx i hi
  | g cs =>
    obtain ⟨c, hc, h⟩ := idsAll_mem hi
    obtain ⟨d, hd, rfl⟩ := List.mem_map.1 hc
    exact Atom.mov_ids d (List.all_eq_true.1 hx d hd) i h
theorem idsT_mem {xs : List SV1} {k : Nat} (h : k ∈ idsT xs) : ∃ x ∈ xs, k ∈ x.ids := by
  induction xs with
  | nil => cases h
  | cons d r ih =>
    simp only [idsT, List.mem_append] at h
    rcases h with h | h
    · exact ⟨d, by simp, h⟩
    · obtain ⟨c, hc, hk⟩ := ih h; exact ⟨c, by simp [hc], hk⟩
theorem SV.mov_ids {k b o : Nat} (x : SV) (hx : x.part = true) : ∀ i ∈ (x.mov k b o).ids, i = k := fun i hi => by
  cases x with
  | o x => exact SV1.mov_ids x hx i hi
  | t xs =>
    obtain ⟨c, hc, h⟩ := idsT_mem hi
    obtain ⟨d, hd, rfl⟩ := List.mem_map.1 hc
    exact SV1.mov_ids d (List.all_eq_true.1 hx d hd) i h
def Con.win {G : Glob} {P : Program} {T : Ty} (hT : T.ok P) (f : FuncId) (fn : Func) (hf : P.funcs[f]? = some fn) (h1 : (fn.name == "runtime.NumGoroutine") = false) {c : Code} (hb : fn.body = some c) (s : Nat)
    (spec : List Value → Nat → Nat → List SV → Option (SV × Cst)) (good : ∀ ys n cp rest r p, spec ys n cp rest = some (r, p) → r.part = true)
    (run : ∀ ys n cp ty rest r p, spec ys n cp rest = some (r, p) → Holds p → ys.length = n * s → n ≤ cp → (rest.all fun x => x.ids.isEmpty) = true →
      RunsF P G 1 c (startT fn (.o (.a (.sld 0 0 0 n cp)) :: rest)) [⟨false, ty, .prv ys⟩] (EndsM T fn (endsQ r .none))) : Con P G where
  f := f
  spec := fun m _ args => match args with
    | .o (.a (.sld k b o n cp)) :: rest => match rest.all fun x => x.ids.isEmpty, m k with
      | true, some bl => match bl.row.valsL with
        | some vs => match spec ((vs.drop (b + o)).take (n * s)) n cp rest with
          | some (r, p) => some (r.mov k b o, .none, (b + o + n * s ≤ vs.length) :: (n ≤ cp) :: p)
          | none => none
        | none => none
      | _, _ => none
    | _ => none
  ok := fun m fr args r' e' cs N w0 β w h hc hm hf0 hids => by
    refine .inl ⟨run_callFunc_go hf h1 (by rw [hb]; rfl) _ w, ?_⟩
    split at h <;> try cases h
    rename_i k b o n cp rest
    split at h <;> try cases h
    rename_i bl hrest hbl
    split at h <;> try cases h
    rename_i vs hvs
    split at h <;> cases h
    rename_i r p hsp
    obtain ⟨hle, hcap, hp⟩ := hc
    have hlen : ((vs.drop (b + o)).take (n * s)).length = n * s := by rw [List.length_take, List.length_drop]; omega
    have hh : Hand m (fun _ => k) (fun _ => b + o) (fun _ => some cp) [⟨false, bl.ty, .prv ((vs.drop (b + o)).take (n * s))⟩] := by
      refine ⟨fun i b' hb' => ?_, fun i j b' c' hb' hc' ho => ?_⟩
      · cases i with
        | zero =>
          simp only [List.getElem?_cons_zero, Option.some.injEq] at hb'
          subst hb'
          refine ⟨bl, hbl, rfl, .inl ⟨rfl, .inr (.inr ⟨rfl, fun β n' C hC => ?_⟩)⟩⟩
          obtain ⟨tail, rfl⟩ := Row.valsL_spec hvs β n' C hC
          refine ⟨vs.take (b + o), vs.drop (b + o) ++ tail, by rw [← List.append_assoc, List.take_append_drop], by rw [List.length_take]; omega, fun n'' => ⟨((vs.drop (b + o)).drop (n * s)) ++ tail, ?_⟩⟩
          rw [← List.append_assoc, List.take_append_drop]
        | succ i => simp at hb'
      · cases i with
        | zero => simp only [List.getElem?_cons_zero, Option.some.injEq] at hb'; subst hb'; cases ho
        | succ i => simp at hb'
    have e0 : (handB β (fun _ => k) (fun _ => b + o) (fun _ => some cp) 0).a = (β k).a := rfl
    have e1 : (handB β (fun _ => k) (fun _ => b + o) (fun _ => some cp) 0).s = (β k).s + (b + o) := rfl
    have hargs : (SV.o (.a (.sld k b o n cp)) :: rest).map (SV.den β) = (SV.o (.a (.sld 0 0 0 n cp)) :: rest).map (SV.den (handB β (fun _ => k) (fun _ => b + o) (fun _ => some cp))) := by
      have q1 : (SV.o (.a (.sld k b o n cp))).den β = (SV.o (.a (.sld 0 0 0 n cp))).den (handB β (fun _ => k) (fun _ => b + o) (fun _ => some cp)) := by
        simp [SV.den, SV1.den, Atom.den, Loc.at, e0, e1]
      have q2 : rest.map (SV.den β) = rest.map (SV.den (handB β (fun _ => k) (fun _ => b + o) (fun _ => some cp))) := List.map_congr_left fun x hx => denS_congr x fun i hi => by
        have := List.all_eq_true.1 hrest x hx
        rw [List.isEmpty_iff.1 this] at hi
        cases hi
      rw [List.map_cons, List.map_cons, q1, q2]
    rw [hargs]
    refine (hand_calls hT hf hb hh hm (fun x hx i hi => ?_) (run _ _ _ _ _ _ _ hsp hp hlen hcap hrest)).mono ?_
    · rcases List.mem_cons.1 hx with rfl | hx
      · simp only [SV.ids, SV1.ids, Atom.ids, List.mem_singleton] at hi
        subst hi
        simp
      · have := List.all_eq_true.1 hrest x hx
        rw [List.isEmpty_iff.1 this] at hi
        cases hi
    · rintro en w' ⟨β', rr, m', hq, rfl, hβ, hm'⟩
      have hq : rr = r := hq
      subst hq
      have hg := good _ _ _ _ _ _ hsp
      have h0 := hβ 0 Nat.zero_lt_one
      refine ⟨β, ?_, fun _ _ => rfl, (hand_read hm (by intro b' hb'; simp only [List.mem_singleton] at hb'; rw [hb']) hm').1, fun i hi => ?_⟩
      · exact congrArg Ending.returned (SV.mov_den (by rw [h0]; rfl) (by rw [h0]; rfl) rr hg)
      · have := SV.mov_ids rr hg i hi
        subst this
        show (m i).isSome = true
        rw [hbl]; rfl
  loc := fun m m' fr fr' args r e c hm hd h hn => by
    split at h <;> try cases h
    rename_i k b o n cp rest
    have hk : m' k = m k := hm _ (List.mem_cons_self) k (by simp [SV.ids, SV1.ids, Atom.ids])
    simp only [hk]
    exact h
  upd := fun m fr args r k row c h => by
    split at h <;> try cases h
    split at h <;> try cases h
    split at h <;> try cases h
    split at h <;> cases h
end Go.Eng
namespace Go.Eng
open Go.RowKit
set_option linter.unusedVariables false
set_option linter.unusedSimpArgs false
section
variable {G : Glob} {P : Program} {Γ : Cons P G} {T : Ty} {ops : List Oper} {tm0 : List SV} {mem0 : List Blk} {E : List Ent} {idE m : Nat}
variable (hT : T.ok P) {N : Nat} {w0 : Base G}
include hT
end
end Go.Eng
namespace Go.Eng
open Go.RowKit
set_option linter.unusedVariables false
set_option linter.unusedSimpArgs false
structure CloP (α : Type) where
  pick : List SV → Option (Nat × Nat × α)
  largs : α → List SV
  ids : ∀ a, ∀ x ∈ largs a, ∀ k ∈ x.ids, k < 2
  den : ∀ args k0 k1 a, pick args = some (k0, k1, a) → (∃ x ∈ args, k0 ∈ x.ids) ∧ (∃ x ∈ args, k1 ∈ x.ids) ∧ ∀ β β' : Nat → Loc, (β' 0).a = (β k0).a → (β' 0).s = (β k0).s → (β' 1).a = (β k1).a → (β' 1).s = (β k1).s → args.map (SV.den β) = (largs a).map (SV.den β')
def CloP.lit : CloP Int where
  pick
    | [.o (.a (.v (.int .i64 i))), .o (.a (.ptr k0 0)), .o (.a (.ptr k1 0))] => some (k0, k1, i)
    | _ => none
  largs i := [.o (.a (.v (.int .i64 i))), .o (.a (.ptr 0 0)), .o (.a (.ptr 1 0))]
  ids a x hx k hk := by
    simp only [List.mem_cons, List.not_mem_nil, or_false] at hx
    rcases hx with rfl | rfl | rfl
    · cases hk
    · simp only [SV.ids, SV1.ids, Atom.ids, List.mem_singleton] at hk; omega
    · simp only [SV.ids, SV1.ids, Atom.ids, List.mem_singleton] at hk; omega
  den args k0 k1 a h := by
    split at h <;> cases h
    refine ⟨⟨.o (.a (.ptr k0 0)), by simp, by simp [SV.ids, SV1.ids, Atom.ids]⟩, ⟨.o (.a (.ptr k1 0)), by simp, by simp [SV.ids, SV1.ids, Atom.ids]⟩, fun β β' h0 h1 h2 h3 => ?_⟩
    simp [SV.den, SV1.den, Atom.den, Loc.at, h0, h1, h2, h3]
def CloP.fn (g : Nat) : CloP Int where
  pick
    | [.o (.a (.v (.int .i64 i))), .o (.a (.fn f [(k0, 0), (k1, 0)]))] => if f = g then some (k0, k1, i) else none
    | _ => none
  largs i := [.o (.a (.v (.int .i64 i))), .o (.a (.fn g [(0, 0), (1, 0)]))]
  ids a x hx k hk := by
    simp only [List.mem_cons, List.not_mem_nil, or_false] at hx
    rcases hx with rfl | rfl
    · cases hk
    · simp only [SV.ids, SV1.ids, Atom.ids, List.map_cons, List.map_nil, List.mem_cons, List.not_mem_nil, or_false] at hk; omega
  den args k0 k1 a h := by
    split at h <;> try cases h
    split at h <;> cases h
    rename_i hg
    subst hg
    refine ⟨⟨_, List.mem_cons_of_mem _ (List.mem_singleton.2 rfl), by simp [SV.ids, SV1.ids, Atom.ids]⟩, ⟨_, List.mem_cons_of_mem _ (List.mem_singleton.2 rfl), by simp [SV.ids, SV1.ids, Atom.ids]⟩, fun β β' h0 h1 h2 h3 => ?_⟩
    simp [SV.den, SV1.den, Atom.den, Loc.at, h0, h1, h2, h3]
end Go.Eng

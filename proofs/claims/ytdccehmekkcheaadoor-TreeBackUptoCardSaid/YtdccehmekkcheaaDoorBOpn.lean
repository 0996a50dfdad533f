/- SameNodes; Open of both sides: contracts. -/
import Derived.Test.YtdccehmekkcheaaDoorBMTE
import Derived.Test.YtdccehmekkcheaaDoorBTrPl
import Derived.Test.YtdccehmekkcheaaDoorBTLn
namespace Go.Proofs.YtdccehmekkcheaaDoor
open Go Go.Eng Go.RowKit
set_option linter.unusedVariables false
set_option linter.unusedSimpArgs false
set_option maxRecDepth 100000
noncomputable def opT (H : Nd → Nd → B32) (l : List Lf) (x : B32) : List Nd := aroV H true (tndV l) [x]
theorem own_ne (H : Nd → Nd → B32) (hH : ∀ a b, BOk (H a b)) {l : List Nd} (h : Ap l) (h0 : l ≠ []) (ks : List B32) : witV H true l ks ≠ [] := fun e => by
  obtain ⟨n, hn⟩ := List.exists_mem_of_ne_nil l h0
  rcases (witV_spec H hH true h h0 ks).all n hn with ⟨p, hp, _⟩ | ⟨q, _⟩
  · rw [e] at hp; cases hp
  · cases q
theorem leaf_good {z : Lf} (h : LOk z) : GoodP (leafV z) := ⟨by show (0 : Int) ≤ 256; omega, by show (256 : Int) ≤ 256; omega, fst_all h.1 (by show 256 ≤ (256 : Int).toNat; omega)⟩
theorem mem_rnd {l : List Lf} {n : Nd} (hn : n ∈ rndA l l.length) : ∃ z ∈ l, leafV z = n := by
  have q := (rnd_perm l l.length (Nat.le_refl _)).mem_iff.1 hn
  rw [leaves_all] at q
  exact List.mem_map.1 q
theorem rnd_ap {l : List Lf} (h : AllL l) (hd : rndD l l.length = false) : Ap (rndA l l.length) := by
  have hk := rnd_nok h l.length (Nat.le_refl _)
  refine ⟨fun n hn => ?_, (rnd_pair h l.length (Nat.le_refl _) hd).imp_of_mem fun {a b} ha hb hab => ?_, hk⟩
  · obtain ⟨z, hz, rfl⟩ := mem_rnd hn
    exact leaf_good (h z hz)
  · have hc := com_lt (hk a ha).1 (hk b hb).1 hab.ne
    obtain ⟨z, hz, rfl⟩ := mem_rnd ha
    obtain ⟨y, hy, rfl⟩ := mem_rnd hb
    exact ⟨hab, by show _ < (256 : Int); omega, by show _ < (256 : Int); omega⟩
theorem tnd_apart {l : List Lf} (h : AllL l) (hd : rndD l l.length = false) : apartV (tndV l) = true := by
  rw [← rnd_tnd h hd]
  exact (ap_iff (rnd_nok h _ (Nat.le_refl _))).2 (rnd_ap h hd)
namespace top
noncomputable abbrev fn := Tryd.f40
noncomputable def body : Code := bodyOf fn
noncomputable def ΓP (H : Nd → Nd → B32) (hH : H = hV) : Cons Tryd.prog GT := [tnd.con, tap.con, tar.cP H hH]
noncomputable def ΓZ (H : Nd → Nd → B32) (hH : H = hV) : Cons Tryd.prog GT := [tnd.con, tap.con, tar.cZ H hH]
def MN (e : Int) : List (Option SV) := maskL 16 0 [(4, .o (.a (.v (.slice none 0 0)))), (5, .o (.a (int1 .i64 e)))]
def MR (r : Nat) : List (Option SV) := maskL 16 0 [(4, .o (.a (.slg 1 r))), (5, .o (.a (int1 .i64 0)))]
def m0 (l : List Lf) (ty : TypeId) : List Blk := [⟨false, ty, .prv (lvals l)⟩]
def mr (l : List Lf) (ty : TypeId) (us : List Value) (r : Nat) : List Blk := [⟨false, ty, .prv (lvals l)⟩, ⟨true, 33, .grv 65 us r none⟩]
theorem iN (l : List Lf) (ty : TypeId) (e : Int) : idsIn (m0 l ty).length (MN e) (m0 l ty) = true := by kernel_rfl
theorem iR (l : List Lf) (ty : TypeId) (us : List Value) (r : Nat) : idsIn (mr l ty us r).length (MR r) (mr l ty us r) = true := by kernel_rfl
theorem zn (l : List Lf) (ty : TypeId) (e : Int) (g : Nat → SV) : eRes tys (fill g 0 (MN e)) (fun k => (m0 l ty)[k]?) fn.results.toList = some [.a (.v (.slice none 0 0)), .a (int1 .i64 e)] := by kernel_rfl
theorem zr (l : List Lf) (ty : TypeId) (us : List Value) (r : Nat) (g : Nat → SV) : eRes tys (fill g 0 (MR r)) (fun k => (mr l ty us r)[k]?) fn.results.toList = some [.a (.slg 1 r), .a (int1 .i64 0)] := by kernel_rfl
theorem sZ (H : Nd → Nd → B32) (hH : H = hV) (l : List Lf) (n c : Nat) (ty : TypeId) (x : B32) : outN [0] (MN 0) (exec (ΓZ H hH) tys 100 body ⟨startT fn [.o (.a (.sld 0 0 0 n c)), cB32.enc x], [⟨false, ty, .prv (lvals l)⟩], [(10, [.s (cBool.enc true)]), (14, [.dyn])]⟩) = some (.ret, (live (MN 0)).map (SV.ren (piF [0])), (MN 0).length, (m0 l ty).map (fun b => some (b.ren (piF [0]))), [0 + 0 + n * 64 ≤ (lvals l).length, n ≤ c, ((lvals l).drop (0 + 0)).take (n * 64) = lvals (lfDec (((lvals l).drop (0 + 0)).take (n * 64))), (lfDec (((lvals l).drop (0 + 0)).take (n * 64))).length = n, n ≤ 4000000, AllL (lfDec (((lvals l).drop (0 + 0)).take (n * 64))), 0 + 0 + n * 65 ≤ (nvals (tndV (lfDec (((lvals l).drop (0 + 0)).take (n * 64))))).length, n ≤ n, ((nvals (tndV (lfDec (((lvals l).drop (0 + 0)).take (n * 64))))).drop (0 + 0)).take (n * 65) = nvals (ndDec (((nvals (tndV (lfDec (((lvals l).drop (0 + 0)).take (n * 64))))).drop (0 + 0)).take (n * 65))), (ndDec (((nvals (tndV (lfDec (((lvals l).drop (0 + 0)).take (n * 64))))).drop (0 + 0)).take (n * 65))).length = n, n < boundN, AllOk (ndDec (((nvals (tndV (lfDec (((lvals l).drop (0 + 0)).take (n * 64))))).drop (0 + 0)).take (n * 65))), cBool.enc (apartV (ndDec (((nvals (tndV (lfDec (((lvals l).drop (0 + 0)).take (n * 64))))).drop (0 + 0)).take (n * 65)))) = cBool.enc true, 32 = 1 * 32, 0 + 0 + n * 65 ≤ (nvals (tndV (lfDec (((lvals l).drop (0 + 0)).take (n * 64))))).length, n ≤ n, 0 + 0 + 1 * 32 ≤ (bvals x).length, 1 ≤ 1, ((nvals (tndV (lfDec (((lvals l).drop (0 + 0)).take (n * 64))))).drop (0 + 0)).take (n * 65) = nvals (ndDec (((nvals (tndV (lfDec (((lvals l).drop (0 + 0)).take (n * 64))))).drop (0 + 0)).take (n * 65))), (ndDec (((nvals (tndV (lfDec (((lvals l).drop (0 + 0)).take (n * 64))))).drop (0 + 0)).take (n * 65))).length = n, n < 4000001, AllOk (ndDec (((nvals (tndV (lfDec (((lvals l).drop (0 + 0)).take (n * 64))))).drop (0 + 0)).take (n * 65))), apartV (ndDec (((nvals (tndV (lfDec (((lvals l).drop (0 + 0)).take (n * 64))))).drop (0 + 0)).take (n * 65))) = true, ((bvals x).drop (0 + 0)).take (1 * 32) = wvals (bvDec (((bvals x).drop (0 + 0)).take (1 * 32))), (bvDec (((bvals x).drop (0 + 0)).take (1 * 32))).length = 1, 1 ≤ 4000000, AllB (bvDec (((bvals x).drop (0 + 0)).take (1 * 32))), (aroV H true (ndDec (((nvals (tndV (lfDec (((lvals l).drop (0 + 0)).take (n * 64))))).drop (0 + 0)).take (n * 65))) (bvDec (((bvals x).drop (0 + 0)).take (1 * 32)))) = []]) := by kernel_rfl
theorem sP (H : Nd → Nd → B32) (hH : H = hV) (l : List Lf) (n c : Nat) (ty : TypeId) (x : B32) : outN [0, 4] (MR (aroV H true (ndDec (((nvals (tndV (lfDec (((lvals l).drop (0 + 0)).take (n * 64))))).drop (0 + 0)).take (n * 65))) (bvDec (((bvals x).drop (0 + 0)).take (1 * 32)))).length) (exec (ΓP H hH) tys 100 body ⟨startT fn [.o (.a (.sld 0 0 0 n c)), cB32.enc x], [⟨false, ty, .prv (lvals l)⟩], [(10, [.s (cBool.enc true)]), (14, [.dyn])]⟩) = some (.ret, (live (MR (aroV H true (ndDec (((nvals (tndV (lfDec (((lvals l).drop (0 + 0)).take (n * 64))))).drop (0 + 0)).take (n * 65))) (bvDec (((bvals x).drop (0 + 0)).take (1 * 32)))).length)).map (SV.ren (piF [0, 4])), (MR (aroV H true (ndDec (((nvals (tndV (lfDec (((lvals l).drop (0 + 0)).take (n * 64))))).drop (0 + 0)).take (n * 65))) (bvDec (((bvals x).drop (0 + 0)).take (1 * 32)))).length).length, (mr l ty (nvals (aroV H true (ndDec (((nvals (tndV (lfDec (((lvals l).drop (0 + 0)).take (n * 64))))).drop (0 + 0)).take (n * 65))) (bvDec (((bvals x).drop (0 + 0)).take (1 * 32))))) (aroV H true (ndDec (((nvals (tndV (lfDec (((lvals l).drop (0 + 0)).take (n * 64))))).drop (0 + 0)).take (n * 65))) (bvDec (((bvals x).drop (0 + 0)).take (1 * 32)))).length).map (fun b => some (b.ren (piF [0, 4]))), [0 + 0 + n * 64 ≤ (lvals l).length, n ≤ c, ((lvals l).drop (0 + 0)).take (n * 64) = lvals (lfDec (((lvals l).drop (0 + 0)).take (n * 64))), (lfDec (((lvals l).drop (0 + 0)).take (n * 64))).length = n, n ≤ 4000000, AllL (lfDec (((lvals l).drop (0 + 0)).take (n * 64))), 0 + 0 + n * 65 ≤ (nvals (tndV (lfDec (((lvals l).drop (0 + 0)).take (n * 64))))).length, n ≤ n, ((nvals (tndV (lfDec (((lvals l).drop (0 + 0)).take (n * 64))))).drop (0 + 0)).take (n * 65) = nvals (ndDec (((nvals (tndV (lfDec (((lvals l).drop (0 + 0)).take (n * 64))))).drop (0 + 0)).take (n * 65))), (ndDec (((nvals (tndV (lfDec (((lvals l).drop (0 + 0)).take (n * 64))))).drop (0 + 0)).take (n * 65))).length = n, n < boundN, AllOk (ndDec (((nvals (tndV (lfDec (((lvals l).drop (0 + 0)).take (n * 64))))).drop (0 + 0)).take (n * 65))), cBool.enc (apartV (ndDec (((nvals (tndV (lfDec (((lvals l).drop (0 + 0)).take (n * 64))))).drop (0 + 0)).take (n * 65)))) = cBool.enc true, 32 = 1 * 32, 0 + 0 + n * 65 ≤ (nvals (tndV (lfDec (((lvals l).drop (0 + 0)).take (n * 64))))).length, n ≤ n, 0 + 0 + 1 * 32 ≤ (bvals x).length, 1 ≤ 1, ((nvals (tndV (lfDec (((lvals l).drop (0 + 0)).take (n * 64))))).drop (0 + 0)).take (n * 65) = nvals (ndDec (((nvals (tndV (lfDec (((lvals l).drop (0 + 0)).take (n * 64))))).drop (0 + 0)).take (n * 65))), (ndDec (((nvals (tndV (lfDec (((lvals l).drop (0 + 0)).take (n * 64))))).drop (0 + 0)).take (n * 65))).length = n, n < 4000001, AllOk (ndDec (((nvals (tndV (lfDec (((lvals l).drop (0 + 0)).take (n * 64))))).drop (0 + 0)).take (n * 65))), apartV (ndDec (((nvals (tndV (lfDec (((lvals l).drop (0 + 0)).take (n * 64))))).drop (0 + 0)).take (n * 65))) = true, ((bvals x).drop (0 + 0)).take (1 * 32) = wvals (bvDec (((bvals x).drop (0 + 0)).take (1 * 32))), (bvDec (((bvals x).drop (0 + 0)).take (1 * 32))).length = 1, 1 ≤ 4000000, AllB (bvDec (((bvals x).drop (0 + 0)).take (1 * 32))), (aroV H true (ndDec (((nvals (tndV (lfDec (((lvals l).drop (0 + 0)).take (n * 64))))).drop (0 + 0)).take (n * 65))) (bvDec (((bvals x).drop (0 + 0)).take (1 * 32)))) ≠ []]) := by kernel_rfl
theorem runZ (H : Nd → Nd → B32) (hH : H = hV) (l : List Lf) (n c : Nat) (ty : TypeId) (x : B32) (hn : l.length = n) (hm : n ≤ 4000000) (hc : n ≤ c) (hok : AllL l) (hx : BOk x) (h0 : n = 0) : RunsF Tryd.prog GT 1 body (startT fn [.o (.a (.sld 0 0 0 n c)), cB32.enc x]) [⟨false, ty, .prv (lvals l)⟩] (EndsM tys fn (endsQ (.t [.a (.v (.slice none 0 0)), .a (int1 .i64 0)]) .none)) := by
  have e0 : tndV l = [] := List.eq_nil_of_length_eq_zero (by rw [tnd_len]; omega)
  have ha : apartV (tndV l) = true := by rw [e0]; rfl
  obtain ⟨y1, y2⟩ := lfN_two n hn
  have hl : (lvals l).length = n * 64 := by rw [← hn]; exact lvals_len l
  have hHk : ∀ a b, BOk (H a b) := fun a b => by rw [hH]; exact hV_ok a b
  have ht : (tndV l).length = n := by rw [tnd_len, hn]
  have hz : (nvals (tndV l)).length = n * 65 := by rw [nvals_len, ht]
  obtain ⟨z1, z2⟩ := apN_two n ht
  have hk : AllOk (tndV l) := tnd_ok hok
  have w1 : ((bvals x).drop (0 + 0)).take (1 * 32) = bvals x := by rw [Nat.add_zero, List.drop_zero, List.take_of_length_le (by rw [bvals_len]; omega)]
  have w2 : bvDec (bvals x) = [x] := by have := bvDec_vals [x]; rwa [show wvals [x] = bvals x from List.append_nil _] at this
  have w3 : bvals x = wvals [x] := (List.append_nil _).symm
  have hab : AllB [x] := fun z hz => by rw [List.mem_singleton.1 hz]; exact hx
  exact Runs.of_outN tys_ok mixed [0] (sZ H hH l n c ty x ) ⟨by omega, hc, y1, by rw [y2]; exact hn, hm, by rw [y2]; exact hok, by rw [y2, hz]; omega, Nat.le_refl _, by rw [y2]; exact z1, by rw [y2, z2]; exact ht, by unfold boundN; omega, by rw [y2, z2]; exact hk, by rw [y2, z2, ha], rfl, by rw [y2, hz]; omega, Nat.le_refl _, by rw [bvals_len]; omega, Nat.le_refl _, by rw [y2]; exact z1, by rw [y2, z2]; exact ht, by omega, by rw [y2, z2]; exact hk, by rw [y2, z2]; exact ha, by rw [w1, w2]; exact w3, by rw [w1, w2]; rfl, by omega, by rw [w1, w2]; exact hab, by rw [y2, z2, w1, w2]; exact (by rw [e0, aroV_nil]), trivial⟩ (iN _ _ _) rfl fun g => EndsM.ret (zn _ _ _ g) rfl
theorem runP (H : Nd → Nd → B32) (hH : H = hV) (l : List Lf) (n c : Nat) (ty : TypeId) (x : B32) (hn : l.length = n) (hm : n ≤ 4000000) (hc : n ≤ c) (hok : AllL l) (hx : BOk x) (h0 : 0 < n) (ha : apartV (tndV l) = true) : RunsF Tryd.prog GT 1 body (startT fn [.o (.a (.sld 0 0 0 n c)), cB32.enc x]) [⟨false, ty, .prv (lvals l)⟩] (EndsM tys fn (endsQ (.t [.a (.slg 0 (opT H l x).length), .a (int1 .i64 0)]) (.new 33 (.grv 65 (nvals (opT H l x)) (opT H l x).length none)))) := by
  obtain ⟨y1, y2⟩ := lfN_two n hn
  have hl : (lvals l).length = n * 64 := by rw [← hn]; exact lvals_len l
  have hHk : ∀ a b, BOk (H a b) := fun a b => by rw [hH]; exact hV_ok a b
  have ht : (tndV l).length = n := by rw [tnd_len, hn]
  have hz : (nvals (tndV l)).length = n * 65 := by rw [nvals_len, ht]
  obtain ⟨z1, z2⟩ := apN_two n ht
  have hk : AllOk (tndV l) := tnd_ok hok
  have w1 : ((bvals x).drop (0 + 0)).take (1 * 32) = bvals x := by rw [Nat.add_zero, List.drop_zero, List.take_of_length_le (by rw [bvals_len]; omega)]
  have w2 : bvDec (bvals x) = [x] := by have := bvDec_vals [x]; rwa [show wvals [x] = bvals x from List.append_nil _] at this
  have w3 : bvals x = wvals [x] := (List.append_nil _).symm
  have hab : AllB [x] := fun z hz => by rw [List.mem_singleton.1 hz]; exact hx
  have hA := (ap_iff hk).1 ha
  have hne : aroV H true (tndV l) [x] ≠ [] := by rw [aroV_wit H hHk true hA]; exact own_ne H hHk hA (by rw [← List.length_pos_iff]; omega) _
  have q := sP H hH l n c ty x 
  rw [y2, z2, w1, w2] at q
  exact Runs.of_outN tys_ok mixed [0, 4] q ⟨by omega, hc, (y1.trans (by rw [y2])), hn, hm, hok, by rw [hz]; omega, Nat.le_refl _, dtn ht, ht, by unfold boundN; omega, hk, by rw [ha], rfl, by rw [hz]; omega, Nat.le_refl _, by rw [bvals_len]; omega, Nat.le_refl _, dtn ht, ht, by omega, hk, ha, w3, rfl, by omega, hab, hne, trivial⟩ (iR _ _ _ _) rfl fun g => EndsM.ret (zr _ _ _ _ g) ⟨1, rfl, rfl⟩
noncomputable def specZ (H : Nd → Nd → B32) : List PArg → Option (SV × LEff × Cst)
  | [.winv _ vs n ty, .val v] => match cB32.dec v with
    | some x => some (.t [.a (.v (.slice none 0 0)), .a (int1 .i64 0)], .none, [vs = lvals (lfDec vs), (lfDec vs).length = n, n ≤ 4000000, AllL (lfDec vs), BOk x, n = 0])
    | none => none
  | _ => none
noncomputable def conZ (H : Nd → Nd → B32) (hH : H = hV) : Con Tryd.prog GT := Con.parts tys_ok 40 fn Tryd.func40 (by kernel_rfl) (c := body) (by kernel_rfl) [.winv 64, .val] (specZ H)
  (fun ps r e p h hp => by
    unfold specZ at h
    split at h
    · split at h <;> cases h
      exact ⟨rfl, fun b hb => by simp only [locBlks, PArg.blk, List.append_nil, List.nil_append, List.mem_singleton] at hb; rw [hb]⟩
    · cases h)
  (fun ps r e p cap h hp hi => by
    unfold specZ at h
    split at h
    · rename_i s0 vs n ty z0
      split at h <;> cases h
      rename_i x k2
      have e2 := cB32.ok _ _ k2
      subst e2
      obtain ⟨p1, p2, p3, p4, p5, p6, _⟩ := hp
      have q := runZ H hH (lfDec vs) n (cap 0) ty x p2 p3 hi.1.2 p4 p5 p6
      rw [← p1] at q
      exact q
    · cases h)
noncomputable def specP (H : Nd → Nd → B32) : List PArg → Option (SV × LEff × Cst)
  | [.winv _ vs n ty, .val v] => match cB32.dec v with
    | some x => some (.t [.a (.slg 0 (opT H (lfDec vs) x).length), .a (int1 .i64 0)], .new 33 (.grv 65 (nvals (opT H (lfDec vs) x)) (opT H (lfDec vs) x).length none), [vs = lvals (lfDec vs), (lfDec vs).length = n, n ≤ 4000000, AllL (lfDec vs), BOk x, 0 < n, apartV (tndV (lfDec vs)) = true])
    | none => none
  | _ => none
noncomputable def conP (H : Nd → Nd → B32) (hH : H = hV) : Con Tryd.prog GT := Con.parts tys_ok 40 fn Tryd.func40 (by kernel_rfl) (c := body) (by kernel_rfl) [.winv 64, .val] (specP H)
  (fun ps r e p h hp => by
    unfold specP at h
    split at h
    · split at h <;> cases h
      exact ⟨rfl, fun b hb => by simp only [locBlks, PArg.blk, List.append_nil, List.nil_append, List.mem_singleton] at hb; rw [hb]⟩
    · cases h)
  (fun ps r e p cap h hp hi => by
    unfold specP at h
    split at h
    · rename_i s0 vs n ty z0
      split at h <;> cases h
      rename_i x k2
      have e2 := cB32.ok _ _ k2
      subst e2
      obtain ⟨p1, p2, p3, p4, p5, p6, p7, _⟩ := hp
      have q := runP H hH (lfDec vs) n (cap 0) ty x p2 p3 hi.1.2 p4 p5 p6 p7
      rw [← p1] at q
      exact q
    · cases h)
end top
end Go.Proofs.YtdccehmekkcheaaDoor

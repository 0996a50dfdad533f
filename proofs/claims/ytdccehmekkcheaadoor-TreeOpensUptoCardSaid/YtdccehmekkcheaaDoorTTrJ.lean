/- Packages tree, beaconref11: leaves' nodes, what inner nodes and roots have hashed: contracts of both sides. -/
import Derived.Test.YtdccehmekkcheaaDoorTTrI
namespace Go.Proofs.YtdccehmekkcheaaDoor
open Go Go.Eng Go.RowKit
set_option linter.unusedVariables false
set_option linter.unusedSimpArgs false
set_option maxRecDepth 100000
noncomputable def leafV (l : Lf) : Nd := ⟨256, l.lab, shaV (1 :: (l.lab.to ++ l.val.to))⟩
def innB (a b : Nd) : List Int := 2 :: (ndB a ++ ndB b)
def rtB (a : Nd) : List Int := 3 :: ndB a
def LOk (l : Lf) : Prop := BOk l.lab ∧ BOk l.val
theorem to_byt {b : B32} (h : BOk b) : ∀ y ∈ b.to, S3.Byt y := fun y hy => by
  obtain ⟨i, hi, rfl⟩ := List.mem_iff_getElem.1 hy
  have hi' : i < 32 := hi
  have e := at_to b i hi'
  rw [List.getD_eq_getElem?_getD, List.getElem?_eq_getElem hi] at e
  have e : b.to[i] = b.at i := e
  exact e ▸ h i
theorem dt {ys : List Int} {n : Nat} (h : ys.length = n) : (ys.drop 0).take n = ys := by rw [List.drop_zero, List.take_of_length_le (by omega)]
theorem sha_of {ys : List Int} (h : ys.length ≤ 140737488354000) : S3.finB (S3.absorb S3.S0 ys) = shaV ys := S3.ref_eq ys h
theorem sha_ok (ys : List Int) : BOk (shaV ys) := by
  have hb : ∀ w : Int, 0 ≤ IntKind.u8.wrap w ∧ IntKind.u8.wrap w < 256 := fun w => by
    rw [IntKind.wrap_u8]
    omega
  intro i
  unfold shaV S3.refB S3.outR B32.at
  split <;> exact hb _
theorem leaf_byt {l : Lf} (h : LOk l) : ∀ y ∈ (1 :: (l.lab.to ++ l.val.to) : List Int), S3.Byt y := fun y hy => by
  rcases List.mem_cons.1 hy with rfl | hy
  · exact ⟨by omega, by omega⟩
  · rcases List.mem_append.1 hy with hy | hy
    · exact to_byt h.1 y hy
    · exact to_byt h.2 y hy
theorem ndB_byt {n : Nd} (h : NOk n) : ∀ y ∈ ndB n, S3.Byt y := fun y hy => by
  have hb : ∀ w : Int, S3.Byt (IntKind.u8.wrap w) := fun w => by
    rw [IntKind.wrap_u8]
    exact ⟨by omega, by omega⟩
  unfold ndB at hy
  rcases List.mem_append.1 hy with hy | hy
  · simp only [List.mem_cons, List.not_mem_nil, or_false] at hy
    rcases hy with rfl | rfl <;> exact hb _
  · rcases List.mem_append.1 hy with hy | hy
    · exact to_byt h.1 y hy
    · exact to_byt h.2 y hy
theorem innB_byt {a b : Nd} (ha : NOk a) (hb : NOk b) : ∀ y ∈ innB a b, S3.Byt y := fun y hy => by
  rcases List.mem_cons.1 hy with rfl | hy
  · exact ⟨by omega, by omega⟩
  · rcases List.mem_append.1 hy with hy | hy
    · exact ndB_byt ha y hy
    · exact ndB_byt hb y hy
namespace rleaf
theorem catE (l : Lf) : ((catL [[1], l.lab.to, l.val.to]).drop 0).take 65 = 1 :: (l.lab.to ++ l.val.to) := by
  rw [catL3]; rfl
noncomputable def con : Con Tryd.prog GT := con1 22 fn Tryd.func22 (by kernel_rfl) (by kernel_rfl) cLf (fun l => cNd.enc (leafV l)) (fun l => [LOk l]) (fun _ => rfl) fun l h =>
  FnOk.of_out tys_ok mixed Tryd.func22 (walk l (shaV (1 :: (l.lab.to ++ l.val.to)))) ⟨by omega, by omega, by omega, by omega, by omega, by omega, by omega, by omega, by rw [catE]; exact leaf_byt h.1, by rw [catE]; rfl, trivial⟩ rfl rfl
end rleaf
namespace tleaf
theorem run (l : Lf) : Runs Tryd.prog GT body (startT fn [cLf.enc l]) [] (Eng.Ends tys fn (cNd.enc (leafV l))) := by
  have fin' : ∀ g, RunsF Tryd.prog GT 0 D (fill g 0 (M2 l)) (mem2 l) (Eng.Ends tys fn (cNd.enc (leafV l))) := fun g => by
    refine Runs.of_outX tys_ok mixed (fin l (shaV (1 :: (l.lab.to ++ l.val.to))) g) ⟨by omega, by omega, ?_, trivial⟩ (idsZ l _) rfl fun g => Ends.ret (zr l _ g) rfl
    rw [dt (n := 65) rfl, sha_of (by show 65 ≤ _; omega)]
  refine Runs.of_outXP tys_ok mixed 1 (s0 l) trivial (ids0 l) rfl fun g => ?_
  rw [suf_eq]
  refine Runs.seq (Runs.cutX (id := 1) (opsA := opsOf R1) tys_ok mixed 6 (d l g) ⟨by omega, by omega, by omega, roomU 33 (by omega), trivial⟩ cut (ids1 l) rfl fun g => ?_)
  refine RunsL.room 3 65 (own := true) (ty := 5) (kd := .u8) (xs := 1 :: l.lab.to) (lo := 33) rfl ?_ ?_
  · refine RunsL.of_outN tys_ok 2 _ (tA l g) ⟨by omega, rfl, by omega, trivial⟩ (ids2 l) rfl fun g => RunsL.nil ?_
    show RunsF _ _ _ _ _ _ _
    exact fin' g
  · refine RunsL.of_outN tys_ok 2 _ (tB l g) ⟨by omega, rfl, by omega, roomU 65 (by omega), trivial⟩ (ids2 l) rfl fun g => RunsL.nil ?_
    show RunsF _ _ _ _ _ _ _
    exact fin' g
noncomputable def con : Con Tryd.prog GT := con1 21 fn Tryd.func21 (by kernel_rfl) (by kernel_rfl) cLf (fun l => cNd.enc (leafV l)) (fun l => [LOk l]) (fun _ => rfl) fun l h =>
  FnOk.of_runs tys_ok Tryd.func21 (c := body) (by kernel_rfl) (run l) rfl rfl
end tleaf
namespace tinn
theorem run (a b : Nd) : RunsF Tryd.prog GT 0 body (startT fn [cNd.enc a, cNd.enc b]) [] (EndsM tys fn (endsQ (.o (.a (.slg 0 133))) (.new 5 (.gro .u8 (innB a b) 133 none)))) := by
  refine Runs.of_outXP tys_ok mixed 1 (s0 a b) trivial (ids0 a b) rfl fun g => ?_
  rw [suf_eq]
  have fin' : ∀ g, RunsF Tryd.prog GT 0 .ret (fill g 0 (M2 a b)) (mem2 a b) (EndsM tys fn (endsQ (.o (.a (.slg 0 133))) (.new 5 (.gro .u8 (innB a b) 133 none)))) := fun g =>
    Runs.of_exec (Γ := Γ) tys_ok mixed (n := 1) (orc := []) (cs := []) (e := .ret) rfl trivial (EndsM.ret (zr a b g) ⟨0, rfl, rfl⟩)
  refine Runs.seq (Runs.cutX (id := 1) (opsA := opsOf R1) tys_ok mixed 6 (d a b g) ⟨by omega, by omega, by omega, roomU 67 (by omega), trivial⟩ cut (ids1 a b) rfl fun g => ?_)
  refine RunsL.room 4 133 (own := true) (ty := 5) (kd := .u8) (xs := 2 :: ndB a) (lo := 67) rfl ?_ ?_
  · refine RunsL.of_outN tys_ok 2 _ (tA a b g) ⟨by omega, rfl, by omega, trivial⟩ (ids2 a b) rfl fun g => RunsL.nil ?_
    show RunsF _ _ _ _ _ _ _
    exact fin' g
  · refine RunsL.of_outN tys_ok 2 _ (tB a b g) ⟨by omega, rfl, by omega, roomU 133 (by omega), trivial⟩ (ids2 a b) rfl fun g => RunsL.nil ?_
    show RunsF _ _ _ _ _ _ _
    exact fin' g
def spec : List PArg → Option (SV × LEff × Cst)
  | [.val v, .val u] => match cNd.dec v, cNd.dec u with
    | some a, some b => some (.o (.a (.slg 0 133)), .new 5 (.gro .u8 (innB a b) 133 none), [])
    | _, _ => none
  | _ => none
noncomputable def con : Con Tryd.prog GT := Con.parts tys_ok 80 fn Tryd.func80 (by kernel_rfl) (c := body) (by kernel_rfl) [.val, .val] spec
  (fun ps r e p h hp => by
    unfold spec at h
    split at h
    · split at h <;> cases h
      exact ⟨rfl, fun b hb => by simp [locBlks, PArg.blk] at hb⟩
    · cases h)
  (fun ps r e p cap h hp hi => by
    unfold spec at h
    split at h
    · split at h <;> cases h
      rename_i a b h1 h2
      have := cNd.ok _ _ h1
      subst this
      have := cNd.ok _ _ h2
      subst this
      exact run a b
    · cases h)
end tinn
namespace rinn
theorem run (a b : Nd) : RunsF Tryd.prog GT 0 body (startT fn [cNd.enc a, cNd.enc b]) [] (EndsM tys fn (endsQ (.o (.a (.slg 0 133))) (.new 5 (.gro .u8 (innB a b) 133 none)))) := by
  refine Runs.of_outN tys_ok mixed _ (s a b) ⟨by omega, by omega, by omega, by omega, by omega, trivial⟩ (ids a b) rfl fun g => EndsM.ret (zr a b g) ⟨0, rfl, ?_⟩
  show some _ = some _
  rw [catL3]
  rfl
def spec : List PArg → Option (SV × LEff × Cst)
  | [.val v, .val u] => match cNd.dec v, cNd.dec u with
    | some a, some b => some (.o (.a (.slg 0 133)), .new 5 (.gro .u8 (innB a b) 133 none), [])
    | _, _ => none
  | _ => none
noncomputable def con : Con Tryd.prog GT := Con.parts tys_ok 83 fn Tryd.func83 (by kernel_rfl) (c := body) (by kernel_rfl) [.val, .val] spec
  (fun ps r e p h hp => by
    unfold spec at h
    split at h
    · split at h <;> cases h
      exact ⟨rfl, fun b hb => by simp [locBlks, PArg.blk] at hb⟩
    · cases h)
  (fun ps r e p cap h hp hi => by
    unfold spec at h
    split at h
    · split at h <;> cases h
      rename_i a b h1 h2
      have := cNd.ok _ _ h1
      subst this
      have := cNd.ok _ _ h2
      subst this
      exact run a b
    · cases h)
end rinn
namespace ttop
theorem run (a : Nd) : RunsF Tryd.prog GT 0 body (startT fn [cNd.enc a]) [] (EndsM tys fn (endsQ (.o (.a (.slg 0 67))) (.new 5 (.gro .u8 (rtB a) 67 none)))) := by
  exact Runs.of_outN tys_ok mixed _ (s a) ⟨by omega, by omega, by omega, roomU 67 (by omega), trivial⟩ (ids a) rfl fun g => EndsM.ret (zr a g) ⟨0, rfl, rfl⟩
def spec : List PArg → Option (SV × LEff × Cst)
  | [.val v] => match cNd.dec v with
    | some a => some (.o (.a (.slg 0 67)), .new 5 (.gro .u8 (rtB a) 67 none), [])
    | none => none
  | _ => none
noncomputable def con : Con Tryd.prog GT := Con.parts tys_ok 59 fn Tryd.func59 (by kernel_rfl) (c := body) (by kernel_rfl) [.val] spec
  (fun ps r e p h hp => by
    unfold spec at h
    split at h
    · split at h <;> cases h
      exact ⟨rfl, fun b hb => by simp [locBlks, PArg.blk] at hb⟩
    · cases h)
  (fun ps r e p cap h hp hi => by
    unfold spec at h
    split at h
    · split at h <;> cases h
      rename_i a h1
      have := cNd.ok _ _ h1
      subst this
      exact run a
    · cases h)
end ttop
end Go.Proofs.YtdccehmekkcheaaDoor

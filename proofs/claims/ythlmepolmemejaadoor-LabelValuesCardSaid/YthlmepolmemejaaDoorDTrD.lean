/- What the listed table is; arguments that are lists of nodes, of leaves, rows of 32 bytes. -/
import Derived.Test.YthlmepolmemejaaDoorDOpenRows
import Derived.Test.YthlmepolmemejaaDoorDTrK
import Derived.Lib.LaidTab
import Derived.LaidMore
import Derived.LaidOnce
import Derived.Stop.Joined
import Derived.SizedLaws
import Derived.Deep.DeepHandedRow
namespace Go.Proofs.YthlmepolmemejaaDoor
open Go Go.Eng Go.ChangeShapes Go.WideShapes Go.ChangeAt Go.RowKit
set_option linter.unusedVariables false
set_option maxRecDepth 100000
theorem own : ownKnob Tryd.prog.godebug = none := by kernel_rfl
theorem laidOut : laidOutB Tryd.prog = true := by kernel_rfl
abbrev laid1 : List (String × DataW Unit) := [("beacon/sha2.k256", Rows.laid_beacon_sha2_k256)]
theorem g256 : Tryd.prog.globalNamed "beacon/sha2.k256" = some 1 := by kernel_rfl
theorem t256 : (Tryd.prog.globals[1]?).map (·.type) = some 47 := by kernel_rfl
theorem laid256 : (Rows.laid_beacon_sha2_k256 : DataW Unit) = Lib.tabData .u32 S3.k256L := by kernel_rfl
theorem cells256 : Tryd.prog.cellsOf 47 = 64 := by kernel_rfl
theorem cellsU32 : Tryd.prog.cellsOf 45 = 1 := by kernel_rfl
theorem door_met (os : Os) (args : Array Value) : laidMetH Tryd.prog laid1 ((World.doorLaid Tryd.prog 400 os).forCall (fun _ _ => 0) ⟨#[], args, []⟩).memory :=
  laidMetH_of_parts3 (fuel := 8) (laidMet_of_run' 8 (by kernel_rfl) (by kernel_rfl)) (by kernel_rfl) (by kernel_rfl)
theorem glob_of_laid {rest : List (String × DataW Unit)} {W : World} (h : laidMet Tryd.prog (("beacon/sha2.k256", Rows.laid_beacon_sha2_k256) :: rest) W) : GlobOk GT W := by
  rw [laid256] at h
  have hT := Lib.tabIs_of_head g256 t256 Tryd.underlying47 Tryd.underlying45 cellsU32 cells256 h
  unfold Lib.TabIs World.var? at hT
  rw [g256] at hT
  simp only [Option.bind_some] at hT
  intro g cs hg
  unfold GT S3.Gs at hg
  split at hg <;> cases hg
  split at hT
  · rename_i cs' elem fr hh
    cases hT
    refine ⟨?_, idsAll_ints _ _, elem, fr, ?_⟩
    · rcases Nat.lt_or_ge 1 W.heap.size with h' | h'
      · exact h'
      · rw [Array.getElem?_eq_none h'] at hh; cases hh
    · rw [hh]
      congr 2
  · cases hT
theorem b32_of_list : ∀ (zs : List Int), zs.length = 32 → (∀ z ∈ zs, (Lit.int .u8 z).wf = true) → ∃ b : B32, zs = b.to ∧ BOk b
  | [a0, a1, a2, a3, a4, a5, a6, a7, a8, a9, a10, a11, a12, a13, a14, a15, a16, a17, a18, a19, a20, a21, a22, a23, a24, a25, a26, a27, a28, a29, a30, a31], _, h =>
    ⟨⟨a0, a1, a2, a3, a4, a5, a6, a7, a8, a9, a10, a11, a12, a13, a14, a15, a16, a17, a18, a19, a20, a21, a22, a23, a24, a25, a26, a27, a28, a29, a30, a31⟩, rfl, by
      have h' : ∀ z ∈ [a0, a1, a2, a3, a4, a5, a6, a7, a8, a9, a10, a11, a12, a13, a14, a15, a16, a17, a18, a19, a20, a21, a22, a23, a24, a25, a26, a27, a28, a29, a30, a31], Byte z := fun z hz => by
        have := h z hz
        simp [Lit.wf, IntKind.min, IntKind.max, IntKind.signed, IntKind.bits] at this
        exact ⟨this.1, by omega⟩
      intro i
      unfold B32.at
      split <;> exact h' _ (by simp)⟩
theorem wfK_rep {k : IntKind} : ∀ {n : Nat} {xs : List Int}, xs.length = n → WfK (List.replicate n k) xs → ∀ z ∈ xs, (Lit.int k z).wf = true
  | 0, [], _, _, z, hz => by cases hz
  | n + 1, x :: xs, hl, h, z, hz => by
    rcases List.mem_cons.1 hz with rfl | hz
    · exact h.1
    · exact wfK_rep (by simpa using hl) h.2 z hz
theorem valK_rep {k : IntKind} : ∀ {n : Nat} {xs : List Int}, xs.length = n → valK (List.replicate n k) xs = xs.map (Value.int k)
  | 0, [], _ => rfl
  | n + 1, x :: xs, hl => by
    rw [List.replicate_succ, valK, valK_rep (by simpa using hl)]
    rfl
section
variable {H : Type} {enc : TypeId × Value → H} {w : World} {base : Nat} {held : Bool} {r : Reach} {b0 : Nat} {v : Value} {d : DataW H} {ps : List MemPlace}
end
abbrev zeroB : B32 := zB
abbrev lam0 : Nat → Eng.Loc := fun _ => ⟨0, 0, 0⟩
def VArg.n : VArg → Nat
  | .none _ => 0
  | .win _ n _ _ _ => n
theorem varg_len {H : Type} {enc : TypeId × Value → H} {P : Program} {W : World} {base : Nat} {held : Bool} {t e : TypeId} {x : VArg} {d : DataW H} {ps : List MemPlace} (ht : P.underlying t = some (.slice e))
    (hd : DataW.Trod enc P W base (fun _ => true) held t x.val d ps) : x.n = 0 ∨ ∃ el sp, d = .slice el sp ∧ el.length = x.n := by
  cases x with
  | none a => exact .inl rfl
  | win vs n c ty l =>
    right
    obtain ⟨fuel, hf⟩ := hd
    rcases DataW.trod_slice ht hf with ⟨hcs, _⟩ | ⟨a, len', cap', elems, rest, n', _, hcs, hx, hb, hl, hm, hlen, _⟩
    · simp [VArg.val, Value.cells] at hcs
    · simp only [VArg.val, Value.cells, List.cons.injEq, Value.slice.injEq, and_true] at hcs
      simp only [Prod.mk.injEq] at hx
      exact ⟨_, _, hx.1, by rw [List.length_map, hlen, ← hcs.2.1]; rfl⟩
theorem varg_reach {H : Type} {P : Program} {ts : List TypeId} {ds : List (DataW H)} {x : VArg} {d : DataW H} {j b : Nat} {t e : TypeId} (h : x.n = 0 ∨ ∃ el sp, d = .slice el sp ∧ el.length = x.n) (hz : (DataW.weightsEach P ts ds).all (· ≤ reachBytes) = true)
    (ht : ts[j]? = some t) (hd : ds[j]? = some d) (hu : P.underlying t = some (.slice e)) (hb : P.bytesOf e = b) : x.n * b ≤ 140737488351232 := by
  rcases h with h | ⟨el, sp, rfl, h⟩
  · rw [h, Nat.zero_mul]; exact Nat.zero_le _
  · have h1 := sized_slice hz ht hd hu
    rw [hb, Nat.add_mul, h] at h1
    unfold reachBytes at h1
    omega
end Go.Proofs.YthlmepolmemejaaDoor

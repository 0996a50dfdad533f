/- Rows of 32 bytes among a law's arguments. -/
import Derived.Test.YtmfobbdgmedhdaaOpenArr
import Derived.Test.YtmfobbdgmedhdaaFRing
namespace Go.Proofs.Ytmfobbdgmedhdaa
open Go Go.Eng Go.RowKit Go.ChangeAt Go.ChangeShapes
set_option linter.unusedVariables false

theorem b32_of_list : ∀ (zs : List Int), zs.length = 32 → (∀ z ∈ zs, (Lit.int .u8 z).wf = true) → ∃ b : B32, zs = b.to ∧ BOk b
  | [a0, a1, a2, a3, a4, a5, a6, a7, a8, a9, a10, a11, a12, a13, a14, a15, a16, a17, a18, a19, a20, a21, a22, a23, a24, a25, a26, a27, a28, a29, a30, a31], _, h =>
    ⟨⟨a0, a1, a2, a3, a4, a5, a6, a7, a8, a9, a10, a11, a12, a13, a14, a15, a16, a17, a18, a19, a20, a21, a22, a23, a24, a25, a26, a27, a28, a29, a30, a31⟩, rfl, by
      have h' : ∀ z ∈ [a0, a1, a2, a3, a4, a5, a6, a7, a8, a9, a10, a11, a12, a13, a14, a15, a16, a17, a18, a19, a20, a21, a22, a23, a24, a25, a26, a27, a28, a29, a30, a31], Byte z := fun z hz => by
        have := h z hz
        simp [Lit.wf, IntKind.min, IntKind.max, IntKind.signed, IntKind.bits] at this
        exact ⟨this.1, by omega⟩
      intro i
      unfold B32.at
      split <;> exact h' _ (by simp)⟩
theorem open_b32 {H : Type} {enc : TypeId × Value → H} {P : Program} {w : World} {base : Nat} {spare : Nat → Bool} {held : Bool} {r : Reach} {b0 : Nat} {t e : TypeId} {v : Value} {d : DataW H} {ps : List MemPlace}
    (ht : P.underlying t = some (.array 32 e)) (he : P.underlying e = some (.int .u8)) (hc : P.cellsOf e = 1) (hn : P.cellsOf t = 32)
    (hval : Value.okWide P w r b0 t v) (hd : DataW.Trod enc P w base spare held t v d ps) :
    ∃ b : B32, v = (cB32.enc b).den id ∧ ps = [] ∧ BOk b := by
  obtain ⟨zs, hl, hv, hp, hw⟩ := open_arr ht he hc hn hval hd
  obtain ⟨b, rfl, hb⟩ := b32_of_list zs hl hw
  refine ⟨b, ?_, hp, hb⟩
  rw [hv]
  show _ = Value.agg _
  congr 2
end Go.Proofs.Ytmfobbdgmedhdaa

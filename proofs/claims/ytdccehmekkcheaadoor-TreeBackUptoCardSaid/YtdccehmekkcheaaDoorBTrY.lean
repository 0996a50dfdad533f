/- beaconref11.Nodes: walk, contracts. -/
import Derived.Test.YtdccehmekkcheaaDoorBTrX
namespace Go.Proofs.YtdccehmekkcheaaDoor
open Go Go.Eng Go.RowKit
set_option linter.unusedVariables false
set_option linter.unusedSimpArgs false
set_option maxRecDepth 100000
def insK (out : List Nd) (x : Nd) : Nat → Nat
  | 0 => 0
  | k + 1 => bif ltV x.pre (out.getD k zn).pre then insK out x k else k + 1
def insV (out : List Nd) (x : Nd) : List Nd := out.take (insK out x out.length) ++ x :: out.drop (insK out x out.length)
def dupK (out : List Nd) (x : Nd) : Nat → Bool
  | 0 => false
  | k + 1 => eqL (out.getD k zn).pre.to x.pre.to
def dupV (out : List Nd) (x : Nd) : Bool := dupK out x (insK out x out.length)
noncomputable def rndA (l : List Lf) : Nat → List Nd
  | 0 => []
  | i + 1 => insV (rndA l i) (leafV (l.getD i zl))
noncomputable def rndD (l : List Lf) : Nat → Bool
  | 0 => false
  | i + 1 => rndD l i || dupV (rndA l i) (leafV (l.getD i zl))
theorem insK_le (out : List Nd) (x : Nd) : ∀ k, insK out x k ≤ k
  | 0 => Nat.le_refl _
  | k + 1 => by
    unfold insK
    cases ltV x.pre (out.getD k zn).pre
    · exact Nat.le_refl _
    · exact Nat.le_succ_of_le (insK_le out x k)
theorem mem_insV {out : List Nd} {x y : Nd} (h : y ∈ insV out x) : y = x ∨ y ∈ out := by
  unfold insV at h
  rcases List.mem_append.1 h with h | h
  · exact .inr (List.mem_of_mem_take h)
  · rcases List.mem_cons.1 h with h | h
    · exact .inl h
    · exact .inr (List.mem_of_mem_drop h)
end Go.Proofs.YtdccehmekkcheaaDoor

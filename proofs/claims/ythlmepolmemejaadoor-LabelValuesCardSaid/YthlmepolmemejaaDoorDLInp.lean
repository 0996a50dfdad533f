/- The law of a label's input: no two inputs are one; walked; its content. -/
import Derived.Test.YthlmepolmemejaaDoorDInp
namespace Go.Proofs.YthlmepolmemejaaDoor
open Go Go.Eng Go.RowKit
set_option linter.unusedVariables false
set_option linter.unusedSimpArgs false
set_option maxRecDepth 100000
namespace awk
noncomputable abbrev fn := Tryd.f4
noncomputable def body : Code := bodyOf fn
def sa : ByteArray := ⟨#[97]⟩
def sA : ByteArray := ⟨#[65]⟩
def MA : List (Option SV) := maskL 24 0 [(1, .o (.a (.sld 0 0 0 35 35))), (2, .o (.a (.v (.int .i64 0))))]
def mA : List Blk := [⟨true, 5, .run .u8 (encB (inpL (bytesI sa) 1 true))⟩]
theorem idsA : idsIn mA.length MA mA = true := by kernel_rfl
theorem s1 {G : Glob} : outX mA.length MA (exec ([inp.con] : Cons Tryd.prog G) tys 200 (cpre 2 body) ⟨startT fn [], [], []⟩) = some (.normal, live MA, MA.length, mA, [sa.size ≤ 9223372036854775807, accOk (bytesI sa) = true, (1 : Int) ≠ 0, U64 1]) := by kernel_rfl
noncomputable def e (G : Glob) (g : Nat → SV) : St := outS ([inp.bad] : Cons Tryd.prog G) tys 200 (csuf 2 body) ⟨fill g 0 MA, mA, []⟩
theorem ex {G : Glob} (g : Nat → SV) : exec ([inp.bad] : Cons Tryd.prog G) tys 200 (csuf 2 body) ⟨fill g 0 MA, mA, []⟩ = some (.ret, ⟨(e G g).tm, (e G g).mem, []⟩, [sA.size ≤ 9223372036854775807, accOk (bytesI sA) = false ∨ (1 : Int) = 0]) := by kernel_rfl
theorem res {G : Glob} (g : Nat → SV) : eRes tys (e G g).tm (fun k => (e G g).mem[k]?) fn.results.toList = some [.a (bool1 true)] := by kernel_rfl
theorem run {G : Glob} : RunsF Tryd.prog G 0 body (startT fn []) [] (EndsM tys fn (endsQ (cBool.enc true) .none)) := by
  refine Runs.of_outXP tys_ok mixed 2 s1 ⟨by decide, by kernel_rfl, by decide, ⟨by decide, by decide⟩, trivial⟩ idsA rfl fun g => ?_
  exact Runs.of_exec tys_ok mixed (ex g) ⟨by decide, .inl (by kernel_rfl), trivial⟩ (EndsM.ret (res g) rfl)
def spec : List PArg → Option (SV × LEff × Cst)
  | [] => some (.o (.a (bool1 true)), .none, [])
  | _ => none
noncomputable def con {G : Glob} : Con Tryd.prog G := Con.parts tys_ok 4 fn Tryd.func4 (by kernel_rfl) (c := body) (by kernel_rfl) [] spec
  (fun ps r e p h hp => by
    unfold spec at h
    split at h <;> cases h
    exact ⟨rfl, fun b hb => by cases hb⟩)
  (fun ps r e p cap h hp hi => by
    unfold spec at h
    split at h <;> cases h
    exact run)
end awk
end Go.Proofs.YthlmepolmemejaaDoor

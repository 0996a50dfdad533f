/- Package sha2: MAC's contract. -/
import Derived.Test.YtpmdelihcdaffaaDoorMac
namespace Go.Proofs.YtpmdelihcdaffaaDoor
open Go Go.Eng Go.RowKit
set_option linter.unusedVariables false
set_option maxRecDepth 100000

def macV (key msg : List Int) : B32 := if 64 < key.length then macO (klong (finB (absorb S0 key))) (macI (klong (finB (absorb S0 key))) msg) else macO (kshort key key.length) (macI (kshort key key.length) msg)
theorem macV_nil (msg : List Int) : macV [] msg = macO (kshort [] 0) (macI (kshort [] 0) msg) := by
  unfold macV
  rw [if_neg (by decide)]
  simp only [List.length_nil]
def mac_spec : List PArg → Option (SV × LEff × Cst)
  | [.win .u8 ys n ty, .win .u8 zs m ty'] => some (cB32.enc (macV ys zs), .none, [])
  | [.win .u8 ys n ty, .val (.o (.a (.v (.slice _ 0 0))))] => some (cB32.enc (macV ys []), .none, [])
  | [.val (.o (.a (.v (.slice _ 0 0)))), .win .u8 zs m ty'] => some (cB32.enc (macV [] zs), .none, [])
  | [.val (.o (.a (.v (.slice _ 0 0)))), .val (.o (.a (.v (.slice _ 0 0))))] => some (cB32.enc (macV [] []), .none, [])
  | _ => none
noncomputable def mac_con : Con Tryd.prog Gs := Con.parts tys_ok 19 mac.fn Tryd.func19 (by kernel_rfl) (c := mac.body) (by kernel_rfl) [.win .u8, .win .u8] mac_spec
  (fun ps r e p h hp => by
    unfold mac_spec at h
    split at h <;> cases h
    · exact ⟨cB32.ids _, fun b hb => by simp only [locBlks, PArg.blk, List.append_nil, List.cons_append, List.nil_append, List.mem_cons, List.not_mem_nil, or_false] at hb; rcases hb with rfl | rfl <;> rfl⟩
    · exact ⟨cB32.ids _, fun b hb => by simp only [locBlks, PArg.blk, List.append_nil, List.mem_singleton] at hb; rw [hb]⟩
    · exact ⟨cB32.ids _, fun b hb => by simp only [locBlks, PArg.blk, List.append_nil, List.nil_append, List.mem_singleton] at hb; rw [hb]⟩
    · exact ⟨cB32.ids _, fun b hb => by cases hb⟩)
  (fun ps r e p cap h hp hi => by
    unfold mac_spec at h
    split at h <;> cases h
    · rename_i ys n ty zs m ty'
      have h1 : ys.length = n := hi.1.1
      unfold macV
      by_cases hk : 64 < ys.length
      · rw [if_pos hk]; exact mac.Lw.run ys n _ ty zs m _ ty' h1 hi.1.2 (by omega) hi.2.1.1 hi.2.1.2
      · rw [if_neg hk, h1]; exact mac.Sw.run ys n _ ty zs m _ ty' h1 hi.1.2 (by omega) hi.2.1.1 hi.2.1.2
    · rename_i ys n ty a
      have h1 : ys.length = n := hi.1.1
      unfold macV
      by_cases hk : 64 < ys.length
      · rw [if_pos hk]; exact mac.Ln.run ys n _ ty a h1 hi.1.2 (by omega)
      · rw [if_neg hk, h1]; exact mac.Sn.run ys n _ ty a h1 hi.1.2 (by omega)
    · rename_i a zs m ty'
      rw [macV_nil]
      exact mac.Nw.run a zs m _ ty' hi.2.1.1 hi.2.1.2
    · rename_i a b
      rw [macV_nil]
      exact mac.Nn.run a b)
end Go.Proofs.YtpmdelihcdaffaaDoor
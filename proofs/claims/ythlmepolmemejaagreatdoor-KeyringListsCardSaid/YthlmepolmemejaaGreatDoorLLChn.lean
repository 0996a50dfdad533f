/- Certificates made of secrets are a chain. -/
import Derived.Test.YthlmepolmemejaaGreatDoorLMade
set_option linter.unusedSimpArgs false
set_option linter.unusedVariables false
namespace Go.Proofs.YthlmepolmemejaaGreatDoor
open Go Go.Eng Go.RowKit
set_option maxRecDepth 100000
theorem vG:BOk aM:=fun i=>by
 have h:aM.at i=0:=by
  unfold B32.at
  split<;>rfl
 rw[h]
 exact(by decide:(0:Int)≤0∧(0:Int)<256)
theorem keysV_ok (b:B32) {g:Int} (h:U64 g):KOk (bI b g):=⟨h,(pub_pt _).ok,(pub_pt _).ok⟩
theorem cert_okC (b:B32) {k:Keys} {e:Int} (hk:KOk k) (he:U64 e):COk (bQ b k e):=⟨hk,he,sig_byte _ _⟩
theorem mk_get (C:B32→Keys→Int→Cert) (S:List B32) (E:List Int):∀q i,i<q→(mkL C S E q).getD i zc=mkC C S E i
 | 0,i,h=>absurd h (Nat.not_lt_zero _)
 | q+1,i,h=>by
  rcases Nat.lt_or_ge i q with h1 | h1
  ·rw[mkL,List.getD_eq_getElem?_getD,List.getElem?_append_left (by rw[uh];exact h1),←List.getD_eq_getElem?_getD,mk_get C S E q i h1]
  ·obtain rfl:i=q:=by omega
   rw[mkL,List.getD_eq_getElem?_getD,List.getElem?_append_right (by rw[uh];exact Nat.le_refl _),uh,Nat.sub_self]
   rfl
end Go.Proofs.YthlmepolmemejaaGreatDoor

/- Certificates made of secrets are a chain. -/
import Derived.Test.YthlmepolmemejaaGreatDoorKMade
set_option linter.unusedSimpArgs false
set_option linter.unusedVariables false
namespace Go.Proofs.YthlmepolmemejaaGreatDoor
open Go Go.Eng Go.RowKit
set_option maxRecDepth 100000
theorem vU:BOk aG:=fun i=>by
 have h:aG.at i=0:=by
  unfold B32.at
  split<;>rfl
 rw[h]
 exact(by decide:(0:Int)≤0∧(0:Int)<256)
theorem keysV_ok (b:B32) {g:Int} (h:U64 g):KOk (bA b g):=⟨h,(pub_pt _).ok,(pub_pt _).ok⟩
theorem cert_okC (b:B32) {k:Keys} {e:Int} (hk:KOk k) (he:U64 e):COk (bL b k e):=⟨hk,he,sig_byte _ _⟩
theorem badK_pub (b:B32):badK (iU b)=false:=by
 unfold badK gF
 rw[(pub_pt b).dec.1,cond_true]
 exact pub_big b
theorem gen_ok (a b c:B32) {i:Nat} (h:i≤5) (ep:Int):vk (bA a i) (bL b (bA c ((i+1:Nat):Int)) ep)=false:=by
 show((i:Int)==18446744073709551615|| !(((i+1:Nat):Int)==IntKind.u64.wrap ((i:Int)+1)))=false
 have h1:IntKind.u64.wrap ((i:Int)+1)=((i+1:Nat):Int):=by rw[IntKind.wrap_u64];omega
 have h2:((i:Int)==18446744073709551615)=false:=by
  rw[beq_eq_false_iff_ne];omega
 rw[h1,h2,beq_self_eq_true]
 rfl
theorem cc_made (a c:B32) {i:Nat} (h:i≤5) (ep:Int):ccV (bA a i) (bL a (bA c ((i+1:Nat):Int)) ep)=0:=by
 unfold ccV
 rw[gen_ok a a c h ep,cond_false]
 show(bif badK (iU (jD c))||badK (iU (mY c)) then 2 else lg (iU (jD a)) (kS (bA c ((i+1:Nat):Int)) ep) (sigV (jD a) (kS (bA c ((i+1:Nat):Int)) ep)))=0
 rw[badK_pub,badK_pub,Bool.false_or,cond_false]
 exact ver_sig (jD a) _
theorem mk_get (C:B32→Keys→Int→Cert) (S:List B32) (E:List Int):∀q i,i<q→(mkL C S E q).getD i zc=mkC C S E i
 | 0,i,h=>absurd h (Nat.not_lt_zero _)
 | q+1,i,h=>by
  rcases Nat.lt_or_ge i q with h1 | h1
  ·rw[mkL,List.getD_eq_getElem?_getD,List.getElem?_append_left (by rw[uJ];exact h1),←List.getD_eq_getElem?_getD,mk_get C S E q i h1]
  ·obtain rfl:i=q:=by omega
   rw[mkL,List.getD_eq_getElem?_getD,List.getElem?_append_right (by rw[uJ];exact Nat.le_refl _),uJ,Nat.sub_self]
   rfl
theorem epM_up {E:List Int} (hE:∀i,0≤E.getD i 0∧E.getD i 0<256):∀i:Nat,i≤100→0≤epM E i∧epM E i≤256*i
 | 0,_=>⟨Int.le_refl _,Int.le_refl _⟩
 | i+1,h=>by
  obtain⟨h1,h2⟩:=epM_up hE i (by omega)
  have h3:=hE i
  unfold epM
  generalize epM E i=e at*
  generalize E.getD i 0=x at*
  cases decide (((i+1:Nat):Int)≤E.length)
  ·rw[cond_false]
   simp only[IntKind.wrap_u64]
   omega
  ·rw[cond_true]
   simp only[IntKind.wrap_u64]
   omega
theorem epM_lt {E:List Int} (hE:∀i,0≤E.getD i 0∧E.getD i 0<256) (i:Nat) (h:i≤99):epM E i<epM E (i+1):=by
 obtain⟨h1,h2⟩:=epM_up hE i (by omega)
 have h3:=hE i
 rw[epM]
 generalize epM E i=e at*
 generalize E.getD i 0=x at*
 cases decide (((i+1:Nat):Int)≤E.length)
 ·rw[cond_false]
  simp only[IntKind.wrap_u64]
  omega
 ·rw[cond_true]
  simp only[IntKind.wrap_u64]
  omega
theorem zq {S:List B32} {E:List Int} (hE:∀i,0≤E.getD i 0∧E.getD i 0<256) {q:Nat} (hq:q≤5):∀i,i≤q→iY ccV (mkL bL S E q) (bA (S.getD 0 aG) 0) i=0
 | 0,_=>rfl
 | i+1,h=>by
  have hi:=zq (S:=S) hE hq i (by omega)
  rw[AB hi,mk_get bL S E q i (by omega)]
  have he:epN (mkL bL S E q) i=epM E i:=by
   cases i with
   | zero=>rfl
   | succ i=>rw[epN,mk_get bL S E q i (by omega)];rfl
  have hk:lq (mkL bL S E q) (bA (S.getD 0 aG) 0) i=bA (S.getD i aG) i:=by
   cases i with
   | zero=>rfl
   | succ i=>rw[lq,mk_get bL S E q i (by omega)];rfl
  have hl:=epM_lt hE i (by omega)
  have hd:decide ((mkC bL S E i).ep≤epN (mkL bL S E q) i)=false:=by
   rw[he]
   exact decide_eq_false (by show ¬epM E (i+1)≤epM E i;omega)
  rw[hd,cond_false,hk]
  exact cc_made _ _ (by omega) _
end Go.Proofs.YthlmepolmemejaaGreatDoor

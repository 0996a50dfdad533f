/- Lists of certificates of which one is another: rows of values. Plain. -/
import Derived.Test.YthlmepolmemejaaGreatDoorLKLr
set_option linter.unusedSimpArgs false
set_option linter.unusedVariables false
namespace Go.Proofs.YthlmepolmemejaaGreatDoor
open Go Go.Eng Go.RowKit
set_option maxRecDepth 100000
theorem putV_left {o:Nat} {ys a b:List Value} (h:o+ys.length≤a.length):iF o ys (a++b)=iF o ys a++b:=by
 unfold iF
 rw[List.take_append_of_le_length (by omega),List.drop_append_of_le_length h]
 simp only[List.append_assoc]
theorem putV_right {o:Nat} {ys a b:List Value}:iF (a.length+o) ys (a++b)=a++iF o ys b:=by
 unfold iF
 rw[List.take_append,List.take_of_length_le (by omega),Nat.add_sub_cancel_left,List.drop_append,List.drop_eq_nil_of_le (by omega),List.nil_append,show a.length+o+ys.length-a.length=o+ys.length by omega]
 simp only[List.append_assoc]
theorem put_at:∀(l:List Cert) {r:Nat},r<l.length→∀(o:Nat) (ys:List Value) (c:Cert),o+ys.length≤130→iF o ys (l.getD r zc).vals=c.vals→iF (r*130+o) ys (aA l)=aA (l.set r c)
 | [],r,h,_,_,_,_,_=>by simp at h
 | x::l,0,h,o,ys,c,ho,hp=>by
  have e:aA (x::l)=x.vals++aA l:=by simp[aA]
  have e2:aA ((x::l).set 0 c)=c.vals++aA l:=by simp[aA]
  have hp:iF o ys x.vals=c.vals:=hp
  rw[e,e2,Nat.zero_mul,Nat.zero_add,putV_left (by rw[Cert.fE];exact ho),hp]
 | x::l,r+1,h,o,ys,c,ho,hp=>by
  have e:aA (x::l)=x.vals++aA l:=by simp[aA]
  have e2:aA ((x::l).set (r+1) c)=x.vals++aA (l.set r c):=by simp[aA]
  have ih:=put_at l (r:=r) (by simpa using h) o ys c ho hp
  have hx:x.vals.length=130:=Cert.fE x
  rw[e,e2,show(r+1)*130+o=x.vals.length+(r*130+o) by rw[hx];omega,putV_right,ih]
theorem iX (l:List Cert):(aA l).length=l.length*130:=fG Cert.fE l
theorem ctake:∀(l:List Cert) (i:Nat),(aA l).take (i*130)=aA (l.take i)
 | [],i=>by simp
 | x::l,0=>by simp
 | x::l,i+1=>by
  have e:aA (x::l)=x.vals++aA l:=by simp[aA]
  have hx:x.vals.length=130:=Cert.fE x
  rw[e,List.take_append,List.take_of_length_le (by rw[hx];omega),hx,show(i+1)*130-130=i*130 by omega,ctake l i]
  simp[aA]
theorem erase_vals (l:List Cert) {r:Nat} (h:r<l.length):(iF (r*130) ((aA l).drop ((r+1)*130)) (aA l)).take ((l.length-1)*130)=aA (l.eraseIdx r):=by
 have hl:=iX l
 have h1:(aA l).take (r*130)=aA (l.take r):=ctake l r
 have h2:(aA l).drop ((r+1)*130)=aA (l.drop (r+1)):=Ae Cert.fE l (r+1)
 unfold iF
 rw[h1,h2,←List.append_assoc]
 have e:aA (l.take r)++aA (l.drop (r+1))=aA (l.eraseIdx r):=by
  rw[List.eraseIdx_eq_take_drop_succ]
  simp[aA]
 rw[e,List.take_append_of_le_length (by rw[iX,List.length_eraseIdx_of_lt h];omega),List.take_of_length_le (by rw[iX,List.length_eraseIdx_of_lt h];omega)]
def cEp (c:Cert) (e:Int):Cert:=⟨c.k,e,c.sig⟩
def cGen (c:Cert) (g:Int):Cert:=⟨⟨g,c.k.sg,c.k.vr⟩,c.ep,c.sig⟩
def cSg (c:Cert) (y:Int):Cert:=⟨⟨c.k.gen,{ c.k.sg with b0:=y },c.k.vr⟩,c.ep,c.sig⟩
def cSig (c:Cert) (y:Int):Cert:=⟨c.k,c.ep,{ c.sig with b5:=y }⟩
theorem ep_put (c:Cert) (e:Int):iF 65 [.int .u64 e] c.vals=(cEp c e).vals:=rfl
theorem gen_put (c:Cert) (e:Int):iF 0 [.int .u64 e] c.vals=(cGen c e).vals:=rfl
theorem sg_put (c:Cert) (e:Int):iF 1 [.int .u8 e] c.vals=(cSg c e).vals:=rfl
theorem sig_put (c:Cert) (e:Int):iF 71 [.int .u8 e] c.vals=(cSig c e).vals:=rfl
theorem set_cok {l:List Cert} {n:Nat} (h:∀i,i<n→COk (l.getD i zc)) {r:Nat} {c:Cert} (hr:r<l.length) (hc:COk c):∀i,i<n→COk ((l.set r c).getD i zc):=fun i hi=>by
 rw[List.getD_eq_getElem?_getD,List.getElem?_set]
 by_cases e:r=i
 ·subst e
  rw[if_pos rfl,if_pos hr]
  exact hc
 ·rw[if_neg e,←List.getD_eq_getElem?_getD]
  exact h i hi
end Go.Proofs.YthlmepolmemejaaGreatDoor

/- GrowLeast: what stays, told in counts. Plain. -/
import Derived.Test.YtdccehmekkcheaaDoorBMTJ
namespace Go.Proofs.YtdccehmekkcheaaDoor
open Go Go.Eng Go.RowKit
set_option linter.unusedVariables false
set_option linter.unusedSimpArgs false
set_option maxRecDepth 100000
def cntV (T:List Nd) (x:B32):Nat→Nat
 | 0=>0
 | i+1=>bif holdsV (T.getD i zn) x then cntV T x i+1 else cntV T x i
theorem cnt_len (T:List Nd) (x:B32):∀i,i≤T.length→cntV T x i=((T.take i).filter fun p=>holdsV p x).length
 | 0,_=>by rw[List.take_zero];rfl
 | i+1,h=>by
  have ih:=cnt_len T x i (by omega)
  have e:T.take (i+1)=T.take i++[T.getD i zn]:=by
   rw[getD_lt (show i<T.length by omega),List.take_append_getElem (by omega)]
  rw[cntV,e,List.filter_append,List.length_append,ih]
  cases hh:holdsV (T.getD i zn) x with
  | true=>rw[cond_true,List.filter_cons_of_pos (by simpa using hh)];rfl
  | false=>rw[cond_false,List.filter_cons_of_neg (by simpa using hh)];rfl
theorem cnt_le (T:List Nd) (x:B32):∀i,cntV T x i≤i
 | 0=>Nat.le_refl _
 | i+1=>by
  have:=cnt_le T x i
  rw[cntV]
  cases holdsV (T.getD i zn) x<;>simp<;>omega
namespace acp
theorem ap_t {X Y:List Lf} (hX:AllL X) (hY:AllL Y) (hne:((X++Y).map leafV).Pairwise NeP) (H:Nd→Nd→B32) (hH:H=hV):aL (stT H X Y)=true:=by
 subst hH
 exact(ap_iff (acp.stay hX hY hne).1.ok).2 (acp.stay hX hY hne).1
theorem none_of {X Y:List Lf} (hX:AllL X) (hY:AllL Y) (hne:((X++Y).map leafV).Pairwise NeP) (H:Nd→Nd→B32) (hH:H=hV) {i k:Nat} (hi:i<(stT H X Y).length) (hk:k<Y.length):holdsV ((stT H X Y).getD i zn) (Y.getD k zl).lab=false:=by
 subst hH
 exact(acp.stay hX hY hne).2.2 _ (bI hi _) _ (List.mem_map_of_mem (bI hk _))
theorem cnt {X Y:List Lf} (hX:AllL X) (hY:AllL Y) (hne:((X++Y).map leafV).Pairwise NeP) (H:Nd→Nd→B32) (hH:H=hV) {k:Nat} (hk:k<X.length):cntV (stT H X Y) (X.getD k zl).lab (stT H X Y).length=1:=by
 subst hH
 obtain⟨hP,hc,_⟩:=acp.stay hX hY hne
 rw[cnt_len _ _ _ (Nat.le_refl _),List.take_length]
 obtain⟨p,hp,hh⟩:=hc.all (leafV (X.getD k zl)) (memT.2 ⟨_,bI hk _,rfl⟩)
 have hh:holdsV p (X.getD k zl).lab=true:=hh
 have e:(stT hV X Y).filter (fun p=>holdsV p (X.getD k zl).lab)=[p]:=by
  refine one_of (List.mem_filter.2 ⟨hp,hh⟩) (fun n hn=> ?_) ?_
  ·obtain⟨h1,h2⟩:=List.mem_filter.1 hn
   exact held_one hP h1 hp h2 hh
  ·refine List.Pairwise.sublist List.filter_sublist (hP.pair.imp_of_mem fun {a b} ha hb h=> ?_)
   exact Sep.ne (hP.good a ha) ⟨h.2.1,h.2.2⟩
 rw[e]
 rfl
theorem few {X:List Lf} (hX:AllL X) (hne:((X++([]:List Lf)).map leafV).Pairwise NeP) (H:Nd→Nd→B32) (hH:H=hV) (h0:X≠[]):(stT H X []).length=1:=by
 subst hH
 have hA:=apT hX (ne_left hne)
 have h1:1≤(tndV X).length:=by rw[tnd_len];exact List.length_pos_iff.2 h0
 have e:stT hV X []=witV hV false (tndV X) (labs []):=aroV_wit hV hV_ok false hA _
 rw[e,witV_one hV false _ h1 (.inl rfl)]
 rfl
end acp
end Go.Proofs.YtdccehmekkcheaaDoor

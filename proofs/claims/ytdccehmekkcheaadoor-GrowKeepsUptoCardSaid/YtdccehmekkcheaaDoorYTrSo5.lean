/- Package tree: Sort: contract. -/
import Derived.Test.YtdccehmekkcheaaDoorYTrSo4
namespace Go.Proofs.YtdccehmekkcheaaDoor
open Go Go.RowKit Go.Eng
open Go.Sort (flatK get_flatK size_flatK HoldsK putRowK putCells pdq pdq_sorts PermIn SortedIn onCells mapBlock)
set_option linter.unusedVariables false
set_option linter.unusedSimpArgs false
set_option maxRecDepth 100000
theorem put_list (pre vs tail:List Value) (X:Array Value) (h:X.size=vs.length):putCells id pre.length X (pre++(vs++tail)).toArray=(pre++(X.toList++tail)).toArray:=by
 apply Array.ext'
 unfold putCells
 rw[Array.toList_mapIdx]
 apply List.ext_getElem?
 intro i
 simp only[List.getElem?_mapIdx]
 have hX:X.toList.length=X.size:=Array.length_toList
 rcases Nat.lt_or_ge i pre.length with h1 | h1
 ·rw[List.getElem?_append_left h1,List.getElem?_append_left h1,List.getElem?_eq_getElem h1]
  simp only[Option.map_some]
  rw[if_neg (by omega)]
 ·rw[List.getElem?_append_right h1,List.getElem?_append_right h1]
  rcases Nat.lt_or_ge (i-pre.length) vs.length with h2 | h2
  ·rw[List.getElem?_append_left h2,List.getElem?_append_left (by omega),List.getElem?_eq_getElem h2,List.getElem?_eq_getElem (by omega)]
   simp only[Option.map_some,id]
   rw[if_pos ⟨h1,by omega⟩,getElem!_pos X _ (by omega)]
   simp
  ·rw[List.getElem?_append_right h2,List.getElem?_append_right (by omega),show i-pre.length-X.toList.length=i-pre.length-vs.length by omega]
   cases ht:tail[i-pre.length-vs.length]? with
   | none=>rfl
   | some v=>
    simp only[Option.map_some]
    rw[if_neg (by omega)]
theorem nvals_at (l:List Nd) (q r:Nat) (hq:q<l.length) (hr:r<65):(ah l)[q*65+r]? =(l.getD q zn).vals[r]? :=by
 rw[←List.getElem?_drop,nvals_drop,List.drop_eq_getElem_cons hq]
 rw[show ah (l[q]::l.drop (q+1))=(l[q]).vals++ah (l.drop (q+1)) from rfl,List.getElem?_append_left (by rw[lenV];exact hr)]
 simp[hq]
theorem flat_list (d:Array Nd):(flatK Nd.vals 65 d).toList=ah d.toList:=by
 apply List.ext_getElem?
 intro i
 have hs:(flatK Nd.vals 65 d).toList.length=d.size*65:=by rw[Array.length_toList,size_flatK]
 have hl:(ah d.toList).length=d.size*65:=by rw[aV,Array.length_toList]
 rcases Nat.lt_or_ge i (d.size*65) with h | h
 ·have h0:=get_flatK Nd.vals 65 d i h
  rw[getElem!_pos _ i (by rw[size_flatK];exact h)] at h0
  have hq:i/65<d.size:=Nat.div_lt_of_lt_mul (by omega)
  have hr:i%65<65:=Nat.mod_lt _ (by omega)
  have e:i=i/65*65+i%65:=by omega
  rw[Array.getElem?_toList,Array.getElem?_eq_getElem (by rw[size_flatK];exact h),h0]
  conv=>rhs;rw[e]
  rw[nvals_at d.toList _ _ (by rw[Array.length_toList];exact hq) hr]
  have e2:d[i/65]! =d.toList.getD (i/65) zn:=by
   rw[getElem!_pos d _ hq]
   simp[hq]
  rw[e2,getElem!_pos _ _ (by rw[lenV];exact hr),List.getElem?_eq_getElem (by rw[lenV];exact hr)]
 ·rw[List.getElem?_eq_none (by omega),List.getElem?_eq_none (by omega)]
noncomputable def bC (l:List Nd):List Nd:=(sortA l.toArray).toList
theorem sortA_size (d:Array Nd):(sortA d).size=d.size:=by
 unfold sortA
 split
 ·exact(pdq_sorts ltS swo_ltS d 0 d.size (Lib.bitLen d.size) true true (Nat.zero_le _) (Nat.le_refl _) (Or.inl rfl)).1.1
 ·rfl
theorem sortL_len (l:List Nd):(bC l).length=l.length:=by unfold bC;rw[Array.length_toList,sortA_size];simp
theorem sortL_perm (l:List Nd):(bC l).Perm l:=by
 unfold bC sortA
 split
 ·have h:=(pdq_sorts ltS swo_ltS l.toArray 0 l.toArray.size (Lib.bitLen l.toArray.size) true true (Nat.zero_le _) (Nat.le_refl _) (Or.inl rfl)).1
  have h3:=h.2.2
  have hs:=h.1
  generalize pdq ltS l.toArray 0 l.toArray.size (Lib.bitLen l.toArray.size) true true=d at h3 hs ⊢
  rw[←hs,Array.extract_size,hs,Array.extract_size] at h3
  exact h3
 ·exact List.Perm.refl _
theorem sortL_sorted (l:List Nd) (i j:Nat) (hi:i<j) (hj:j<l.length):ltS ((bC l).getD j zn) ((bC l).getD i zn)=false:=by
 have hl:=sortL_len l
 unfold bC sortA at*
 split
 ·rename_i h2
  rw[if_pos h2] at hl
  have h:=(pdq_sorts ltS swo_ltS l.toArray 0 l.toArray.size (Lib.bitLen l.toArray.size) true true (Nat.zero_le _) (Nat.le_refl _) (Or.inl rfl)).2 i j (Nat.zero_le _) hi (by simpa using hj)
  generalize pdq ltS l.toArray 0 l.toArray.size (Lib.bitLen l.toArray.size) true true=d at h hl ⊢
  rw[Array.length_toList] at hl
  have e:∀k,k<l.length→d[k]! =d.toList.getD k zn:=fun k hk=>by
   rw[getElem!_pos d k (by omega)]
   simp[show k<d.size by omega]
  rw[←e i (by omega),←e j (by omega)]
  exact h
 ·rename_i h2
  simp at h2
  omega
theorem holds_of {w:World} {a s:Nat} {l:List Nd} {pre tail:List Value} {ty:TypeId} {fr:Nat × Nat} (hh:w.heap[a]? =some (.cells (pre++(ah l++tail)).toArray ty fr)) (hp:pre.length=s) (hfr:FrOk fr (pre++(ah l++tail)).length):HoldsK Nd.vals 65 w a s l.toArray:=by
 intro j hj
 rw[size_flatK] at hj
 have hl:(ah l).length=l.length*65:=aV l
 have hj2:j<(ah l).length:=by rw[hl];simpa using hj
 have hf:=flat_list l.toArray
 constructor
 ·have h1:w.cell? ⟨a,s+j,none⟩=(pre++(ah l++tail))[s+j]? :=by simp[World.cell?,hh]
  rw[h1,List.getElem?_append_right (by omega),List.getElem?_append_left (by omega),show s+j-pre.length=j by omega]
  rw[getElem!_pos _ j (by rw[size_flatK];exact hj)]
  have h2:(flatK Nd.vals 65 l.toArray).toList[j]? =some ((flatK Nd.vals 65 l.toArray)[j]'(by rw[size_flatK];exact hj)):=by
   rw[Array.getElem?_toList,Array.getElem?_eq_getElem]
  rw[hf] at h2
  exact h2
 ·obtain⟨lo,hi⟩:=fr
  have hlen:(pre++(ah l++tail)).length=pre.length+((ah l).length+tail.length):=by rw[List.length_append,List.length_append]
  simp only[World.frozen?,hh]
  rcases hfr with h | h
  ·simp only at h;subst h;simp
   try omega
  ·simp only at h;rw[hlen] at h;simp;omega
noncomputable def sort_con {G:Glob}:Con Tryd.prog G where
 f:=70
 spec:=fun m _ args=>match args with
  | [.o (.a (.slg k n))]=>match m k with
   | some ⟨true,_,.grv s vs lo hi⟩=>some (.t [],.upd k (.grv 65 (ah (bC (au vs))) lo hi),[s=65,vs=ah (au vs),(au vs).length=n,n<4611686018427387904])
   | _=>none
  | [.o (.a (.v (.slice none 0 0)))]=>some (.t [],.none,[])
  | _=>none
 ok:=fun m fr args r e c N w0 β w h hc hm hf0 hids=>by
  refine .inl ⟨run_callFunc_go Tryd.func70 (by kernel_rfl) (by kernel_rfl) _ w,?_⟩
  split at h<;>try cases h
  ·rename_i k n
   split at h<;>cases h
   rename_i ty s vs lo hi hb
   obtain⟨rfl,hvs,hn,hlt,_⟩:=hc
   obtain⟨fr0,pre,C,hh,hp,hC,hown⟩:=hm.blk k _ hb
   obtain⟨tail,rfl,hr1,hr2,hr3⟩:=hC
   obtain⟨hw,hfr⟩:=hown rfl
   generalize au vs=l at*
   subst hvs
   have ha:(β k).a<w.heap.size:=(Array.getElem?_eq_some_iff.1 hh).1
   have hH:=holds_of hh hp hfr
   have key:=sort_calls (β k).a (β k).s (β k).c l.toArray (by simpa [hn] using hlt) w hH ha
   have e1:([SV.o (.a (.slg k n))].map (SV.den β)).toArray= #[.slice (some ⟨(β k).a,(β k).s,none⟩) l.toArray.size (β k).c]:=by
    simp[SV.den,SV1.den,Atom.den,Loc.at,hn]
   rw[e1]
   refine key.mono ?_
   rintro en w' ⟨rfl,q,os,rfl⟩
   refine⟨β,rfl,fun _ _=>rfl,?_,fun k hk=>by cases hk⟩
   have hsz:(flatK Nd.vals 65 (sortA l.toArray)).size=(ah l).length:=by rw[size_flatK,sortA_size,aV];simp
   have hheap:(putRowK Nd.vals 65 (Sort.ahead w q) (β k).a (β k).s (sortA l.toArray)).heap=w.heap.modify (β k).a (onCells (putCells id (β k).s (flatK Nd.vals 65 (sortA l.toArray)))):=rfl
   have hm1:MemR N w0 (Eff.app m 0 (.upd k (.grv 65 (ah (bC l)) lo hi))) β (putRowK Nd.vals 65 (Sort.ahead w q) (β k).a (β k).s (sortA l.toArray)):=by
    refine hm.set hb rfl (r:= .grv 65 (ah (bC l)) lo hi) (pre:=pre) (C:=ah (bC l)++tail) hp ⟨tail,rfl,?_,hr2,hr3⟩ (fun j hj=>by cases hj) ?_ ?_ (fun i hi=> ?_) (fr:=fr0) ?_ ?_
    ·rw[←hr1];simp only[List.length_append,aV,sortL_len]
    ·refine⟨hm.below.os,hm.below.tape,hm.below.output,by rw[hheap,Array.size_modify];exact hm.below.size,fun j hj hx=> ?_⟩
     rw[hheap,Array.getElem?_modify,if_neg (fun e=> ?_)]
     ·exact hm.below.block j hj hx
     ·rcases hw with hw | hw
      ·omega
      ·exact hx (e ▸ hw)
    ·rw[hheap,Array.size_modify]
    ·rw[hheap,Array.getElem?_modify,if_neg (fun e=>hi e.symm)]
    ·have:(pre++(ah (bC l)++tail)).length=(pre++(ah l++tail)).length:=by simp only[List.length_append,aV,sortL_len]
     rw[this];exact hfr
    ·rw[hheap,Array.getElem?_modify,if_pos rfl,hh]
     show some (Obj.cells (putCells id (β k).s _ _) ty fr0)=_
     rw[←hp,put_list pre (ah l) tail _ hsz,flat_list]
     rfl
   exact hm1.later ⟨rfl,rfl,rfl,by rw[Sort.size_grow];omega,fun j hj=>Sort.heap_grow_old _ os hj⟩
  ·refine(sort_nil w).mono ?_
   rintro en w' ⟨rfl,os,rfl⟩
   exact⟨β,rfl,fun _ _=>rfl,hm.later ⟨rfl,rfl,rfl,by rw[Sort.size_grow];omega,fun j hj=>Sort.heap_grow_old _ os hj⟩,fun k hk=>by cases hk⟩
 loc:=fun m m' fr fr' args r e c hm hd h hn=>by
  split at h<;>try cases h
  ·rename_i k n
   show(match m' k with
    | some ⟨true,_,.grv s vs lo hi⟩=>some (SV.t [],Eff.upd k (.grv 65 (ah (bC (au vs))) lo hi),[s=65,vs=ah (au vs),(au vs).length=n,n<4611686018427387904])
    | _=>none)=_
   rw[hm _ (List.mem_singleton.2 rfl) k (by simp[SV.ids,SV1.ids,Atom.ids])]
   exact h
  ·rfl
 upd:=fun m fr args r k row c h=>by
  split at h<;>try cases h
  ·rename_i k n
   split at h<;>cases h
   rename_i hb
   rw[hb];rfl
end Go.Proofs.YtdccehmekkcheaaDoor

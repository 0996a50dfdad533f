/- Package tree: Sort's closure and bytes.Compare, walked to the world. -/
import Derived.Test.YtdccehmekkcheaaDoorCTrK
import Derived.LoopTactic
import Derived.Deep.QuietTactic
import Derived.BigQuiet
import Derived.WalkKit
import Derived.Test.YtdccehmekkcheaaDoorCTrLay
import Derived.Shelf.GgSortFunc.Tiny
import Derived.Shelf.SlSortFuncK.WholeK
set_option linter.unusedSimpArgs false
set_option linter.unusedVariables false
namespace Go.Proofs.YtdccehmekkcheaaDoor
open Go Go.RowKit
set_option maxRecDepth 100000
theorem cmpx_run (xs ys:List Int) (p q:Addr) (c1 c2:Nat) (W:World) (hx:∀j z,xs[j]? =some z→W.cell? (p.add j)=some (.int .u8 z)) (hy:∀j z,ys[j]? =some z→W.cell? (q.add j)=some (.int .u8 z)):
  (callFunc 85 #[.slice (some p) xs.length c1,.slice (some q) ys.length c2]).run Tryd.prog W= .ok (.value (.int .i64 (cmpI xs ys))) W:=by
 rw[run_callFunc_extern Tryd.func85 (by kernel_rfl) (by kernel_rfl) (by kernel_rfl) (e:=Extern.BytealgCompare.compare) (by kernel_rfl)]
 have e1:(Extern.Bytes.bytesOf (.slice (some p) xs.length c1)).run Tryd.prog W= .ok ⟨(Lib.bytesOf xs).toArray⟩ W:=by
  have:=Lib.run_loadBytesX (P:=Tryd.prog) W xs p .empty hx
  show(Extern.Bytes.loadBytes p xs.length .empty).run Tryd.prog W=_
  rw[this];simp
 have e2:(Extern.Bytes.bytesOf (.slice (some q) ys.length c2)).run Tryd.prog W= .ok ⟨(Lib.bytesOf ys).toArray⟩ W:=by
  have:=Lib.run_loadBytesX (P:=Tryd.prog) W ys q .empty hy
  show(Extern.Bytes.loadBytes q ys.length .empty).run Tryd.prog W=_
  rw[this];simp
 show((do pure (goInt (Extern.BytealgCompare.cmp (←Extern.Bytes.bytesOf (.slice (some p) xs.length c1)) (←Extern.Bytes.bytesOf (.slice (some q) ys.length c2)))):Sem Value).run Tryd.prog W).andThen _=_
 simp only[Sem.run_bind,e1,e2,Result.andThen_ok,Sem.run_pure]
 rw[Lib.cmp_eq]
 rfl
theorem bcmp_calls (xs ys:List Int) (p q:Addr) (c1 c2:Nat) (W:World) (hx:∀j z,xs[j]? =some z→W.cell? (p.add j)=some (.int .u8 z)) (hy:∀j z,ys[j]? =some z→W.cell? (q.add j)=some (.int .u8 z)):
  Calls Tryd.prog 67 #[.slice (some p) xs.length c1,.slice (some q) ys.length c2] W fun e w'=>e= .returned (.int .i64 (cmpI xs ys))∧w'=W:=by
 have h:=cmpx_run xs ys p q c1 c2 W hx hy
 go_enter Tryd.func67,Tryd.ntmps67
 go_wp2
 go_ret
 exact⟨rfl,rfl⟩
theorem add_none (b o k:Nat):(⟨b,o,none⟩:Addr).add k=⟨b,o+k,none⟩:=by
 unfold Addr.add
 split
 ·rename_i h;subst h;rfl
 ·rfl
set_option maxHeartbeats 2000000 in
theorem less_calls (blk off c Bs size:Nat) (W:World) (F:Nat→List Int) (hF:∀t,(F t).length=32) (hs:W.cell? ⟨Bs,0,none⟩=some (.slice (some ⟨blk,off,none⟩) size c))
  (hc:∀t,t<size→∀j z,(F t)[j]? =some z→W.cell? ⟨blk,off+t*65+1+j,none⟩=some (.int .u8 z)) (i j:Nat) (hi:i<size) (hj:j<size) (_hsz:size<4611686018427387904):
  Calls Tryd.prog 87 #[.int .i64 i,.int .i64 j,.pointer (some ⟨Bs,0,none⟩)] W fun e w'=>e= .returned (.bool (decide (cmpI (F i) (F j)<0)))∧∃q,w'=W.drewN q:=by
 have hcall:∀n,Calls Tryd.prog 67 #[.slice (some ⟨blk,off+i*65+1,none⟩) 32 32,.slice (some ⟨blk,off+j*65+1,none⟩) 32 32] (W.drewN n) fun e w'=>e= .returned (.int .i64 (cmpI (F i) (F j)))∧w'=W.drewN n:=fun n=>by
  have:=bcmp_calls (F i) (F j) ⟨blk,off+i*65+1,none⟩ ⟨blk,off+j*65+1,none⟩ 32 32 (W.drewN n) (fun k z h=>by rw[add_none];exact hc i hi k z h) (fun k z h=>by rw[add_none];exact hc j hj k z h)
  rw[hF,hF] at this
  exact this
 go_enter Tryd.func87,Tryd.ntmps87
 go_wp2
 go_quiet ((go_at_call 67;exact Calls.quiet_of_same (hcall _)))
 go_wp2
 go_ret
 exact⟨rfl,nq,rfl⟩
open Go Go.RowKit Go.Shelf Go.Lib Go.Sort
instance:Inhabited Nd:=⟨zn⟩
noncomputable def ltS (a b:Nd):Bool:=decide (cmpI a.pre.to b.pre.to<0)
theorem cb_irr:∀a:List UInt8,compareBytes a a=0
 | []=>rfl
 | x::r=>by unfold compareBytes;rw[if_neg (by simp),if_neg (by simp)];exact cb_irr r
theorem cb_trans:∀a b c:List UInt8,compareBytes a b<0→compareBytes b c<0→compareBytes a c<0
 | [],[],_,h,_=>by simp[compareBytes] at h
 | [],_::_,[],_,h=>by simp[compareBytes] at h
 | [],_::_,_::_,_,_=>by simp[compareBytes]
 | _::_,[],_,h,_=>by simp[compareBytes] at h
 | _::_,_::_,[],_,h=>by simp[compareBytes] at h
 | x::a,y::b,z::c,h,k=>by
  unfold compareBytes at h k ⊢
  by_cases h1:x<y
  ·by_cases h2:y<z
   ·rw[if_pos (UInt8.lt_trans h1 h2)];omega
   ·rw[if_neg h2] at k
    by_cases h3:z<y
    ·rw[if_pos h3] at k;omega
    ·have:y=z:=UInt8.le_antisymm (UInt8.not_lt.1 h3) (UInt8.not_lt.1 h2)
     subst this
     rw[if_pos h1];omega
  ·rw[if_neg h1] at h
   by_cases h3:y<x
   ·rw[if_pos h3] at h;omega
   ·rw[if_neg h3] at h
    have:x=y:=UInt8.le_antisymm (UInt8.not_lt.1 h3) (UInt8.not_lt.1 h1)
    subst this
    by_cases h2:x<z
    ·rw[if_pos h2];omega
    ·rw[if_neg h2] at k ⊢
     by_cases h4:z<x
     ·rw[if_pos h4] at k;omega
     ·rw[if_neg h4] at k ⊢
      exact cb_trans a b c h k
theorem cb_ntrans:∀a b c:List UInt8,¬compareBytes a b<0→¬compareBytes b c<0→¬compareBytes a c<0
 | [],[],_,_,k=>k
 | [],_::_,_,h,_=>by simp[compareBytes] at h
 | _::_,_,[],_,_=>by simp[compareBytes]
 | _::_,[],_::_,_,k=>by simp[compareBytes] at k
 | x::a,y::b,z::c,h,k=>by
  unfold compareBytes at h k ⊢
  by_cases h1:x<y
  ·rw[if_pos h1] at h;omega
  ·rw[if_neg h1] at h
   by_cases k1:y<z
   ·rw[if_pos k1] at k;omega
   ·rw[if_neg k1] at k
    by_cases h3:y<x
    ·have:z<x:=UInt8.lt_of_le_of_lt (UInt8.not_lt.1 k1) h3
     rw[if_neg (UInt8.lt_asymm this),if_pos this];omega
    ·rw[if_neg h3] at h
     have:x=y:=UInt8.le_antisymm (UInt8.not_lt.1 h3) (UInt8.not_lt.1 h1)
     subst this
     rw[if_neg k1]
     by_cases k3:z<x
     ·rw[if_pos k3];omega
     ·rw[if_neg k3] at k ⊢
      exact cb_ntrans a b c h k
theorem swo_ltS:SWO ltS where
 irrefl x:=by unfold ltS cmpI;rw[cb_irr];rfl
 trans x y z h k:=by unfold ltS cmpI at*;exact decide_eq_true (cb_trans _ _ _ (of_decide_eq_true h) (of_decide_eq_true k))
 ntrans x y z h k:=by unfold ltS cmpI at*;exact decide_eq_false (cb_ntrans _ _ _ (of_decide_eq_false h) (of_decide_eq_false k))
theorem lenV (x:Nd):x.vals.length=65:=Nd.dG x
noncomputable def svT:TypeInfo:=(Tryd.prog.info? 36).get (by kernel_rfl)
noncomputable def svE:TypeInfo:=(Tryd.prog.info? 33).get (by kernel_rfl)
theorem svK (n:Nat) (h2:2≤n):swapperK n svE 25=9:=by
 have a:svE.hasPointers=false:=by kernel_rfl
 have b:svE.bytes=72:=by kernel_rfl
 have c:(n==0)=false:=by simp;omega
 have d:(n==1)=false:=by simp;omega
 simp[swapperK,a,b,c,d]
noncomputable def mU (d:Array Nd):Array Nd:=if 2≤d.size then pdq ltS d 0 d.size (Lib.bitLen d.size) true true else d
theorem less_reads (blk off c Bs:Nat) (d:Array Nd) (hsz:d.size<4611686018427387904) (w:World) (hH:HoldsK Nd.vals 65 w blk off d) (hblk:blk<w.heap.size)
  (hBs:w.cell? ⟨Bs,0,none⟩=some (.slice (some ⟨blk,off,none⟩) d.size c)) (hB1:Bs<w.heap.size) (hB2:Bs≠blk):
  LessReadsK Tryd.prog 87 #[.pointer (some ⟨Bs,0,none⟩)] Nd.vals 65 ltS blk off d.size w:=by
 intro m os dk hs i j hi hj
 have e:sortWorldK Nd.vals 65 w blk off m dk os=putRowK Nd.vals 65 (grow (Sort.ahead w m) os) blk off dk:=by
  unfold sortWorldK;rw[putRowK_grow _ _ (Sort.ahead w m) _ blk off _ hblk]
 have hHg:HoldsK Nd.vals 65 (grow (Sort.ahead w m) os) blk off d:=holdsK_grow _ _ _ _ blk off d hblk (holdsK_ahead _ _ _ _ _ _ _ hH)
 refine less_calls blk off c Bs d.size _ (fun t=>dk[t]!.pre.to) (fun _=>rfl) ?_ (fun t ht k z hz=> ?_) i j hi hj (by omega)
 ·rw[e,cell?_putRowK_other _ _ _ blk off dk _ (by exact hB2),cell?_grow _ _ _ (by exact hB1)];exact hBs
 ·have hk:k<32:=by
   have:dk[t]!.pre.to.length=32:=rfl
   have:=(List.getElem?_eq_some_iff.1 hz).1
   omega
  have:=((holdsK_putRowK _ _ _ blk off d dk hHg hs).cell (i:=t) (c:=1+k) (by omega) (by omega)).1
  rw[e,show off+t*65+1+k=off+t*65+(1+k) by omega,this]
  have e2:dk[t]!.vals= .int .i64 dk[t]!.len::((dk[t]!.pre.to++dk[t]!.hash.to).map (Value.int .u8)):=rfl
  rw[e2,getElem!_def,Nat.add_comm,List.getElem?_cons_succ,List.getElem?_map,List.getElem?_append_left (by exact hk),hz]
  rfl
theorem slice_calls (blk off c Bs:Nat) (d:Array Nd) (hsz:d.size<4611686018427387904) (w:World) (hH:HoldsK Nd.vals 65 w blk off d) (hblk:blk<w.heap.size)
  (hBs:w.cell? ⟨Bs,0,none⟩=some (.slice (some ⟨blk,off,none⟩) d.size c)) (hB1:Bs<w.heap.size) (hB2:Bs≠blk):
  Calls Tryd.prog 86 #[.iface 36 (.slice (some ⟨blk,off,none⟩) d.size c),.func (.func 87) #[] #[.pointer (some ⟨Bs,0,none⟩)]] w fun e w'=>
   e= .returned (.tuple #[])∧∃n os,w'=grow (putRowK Nd.vals 65 (Sort.ahead w n) blk off (mU d)) os:=by
 by_cases h2:2≤d.size
 ·unfold mU
  rw[if_pos h2]
  exact Any.sort_Slice_cells_eq sv6 36 33 svT svE (by kernel_rfl) (by kernel_rfl) (by kernel_rfl) (by kernel_rfl) 25 (fun _=>by kernel_rfl) Nd.vals 65 lenV (by kernel_rfl) (fun _=>by kernel_rfl)
   (fun x v hv=>oneL [x] v (by rw[kQ];exact hv)) ltS swo_ltS 87 _
   (enters_of Tryd.func87 (by kernel_rfl) rfl) blk off c d h2 hsz 110 (by rw[svK _ h2];kernel_rfl) false
   (fun args W=>run_callFunc_extern Tryd.func110 (by kernel_rfl) (by kernel_rfl) (by kernel_rfl) (e:=Extern.ReflectliteSwapper.swap false) (by kernel_rfl) args W) w (less_reads blk off c Bs d hsz w hH hblk hBs hB1 hB2) hH hblk
 ·unfold mU
  rw[if_neg h2]
  have hself:putRowK Nd.vals 65 (Sort.ahead w 0) blk off d=w:=putRowK_self _ _ _ _ _ _ hH
  rcases Nat.lt_or_ge d.size 1 with h0 | h1
  ·refine(Any.sort_Slice_tiny sv6 36 33 svT svE (by kernel_rfl) (by kernel_rfl) (by kernel_rfl) (by kernel_rfl) 25 (fun _=>by kernel_rfl) _ d.size c (by omega) 102 (by rw[show d.size=0 by omega];kernel_rfl) _ _ _ w).mono ?_
   rintro e w' ⟨rfl,os,rfl⟩
   exact⟨rfl,0,os,by rw[hself]⟩
  ·refine(Any.sort_Slice_tiny sv6 36 33 svT svE (by kernel_rfl) (by kernel_rfl) (by kernel_rfl) (by kernel_rfl) 25 (fun _=>by kernel_rfl) _ d.size c (by omega) 103 (by rw[show d.size=1 by omega];kernel_rfl) _ _ _ w).mono ?_
   rintro e w' ⟨rfl,os,rfl⟩
   exact⟨rfl,0,os,by rw[hself]⟩
theorem sort_calls (blk off c:Nat) (d:Array Nd) (hsz:d.size<4611686018427387904) (w:World) (hH:HoldsK Nd.vals 65 w blk off d) (hblk:blk<w.heap.size):
  Calls Tryd.prog 70 #[.slice (some ⟨blk,off,none⟩) d.size c] w fun e w'=>e= .returned (.tuple #[])∧∃n os,w'=grow (putRowK Nd.vals 65 (Sort.ahead w n) blk off (mU d)) os:=by
 have key:=slice_calls blk off c w.heap.size d hsz (w.alloc (.cells #[.slice (some ⟨blk,off,none⟩) d.size c] 36)) (by rw[alloc_eq_grow];exact holdsK_grow _ _ _ _ blk off d hblk hH) (by rw[alloc_eq_grow,size_grow];omega)
  (by rw[World.cell?_alloc_new];rfl) (by rw[alloc_eq_grow,size_grow];simp) (by omega)
 go_enter Tryd.func70,Tryd.ntmps70
 go_wp2_with (go_at_call 86;refine key.mono ?_;rintro e w' ⟨rfl,n,os,rfl⟩)
 go_end0
 exact⟨rfl,n, #[.cells #[.slice (some ⟨blk,off,none⟩) d.size c] 36]++os,by rw[alloc_eq_grow,ahead_grow,putRowK_grow Nd.vals 65 (Sort.ahead w n) _ blk off _ hblk,grow_grow]⟩
theorem sort_nil (w:World):
  Calls Tryd.prog 70 #[.slice none 0 0] w fun e w'=>e= .returned (.tuple #[])∧∃os,w'=grow w os:=by
 have key:=Any.sort_Slice_tiny sv6 36 33 svT svE (by kernel_rfl) (by kernel_rfl) (by kernel_rfl) (by kernel_rfl) 25 (fun _=>by kernel_rfl) none 0 0 (by omega) 102 (by kernel_rfl) (.func 87) #[] #[.pointer (some ⟨w.heap.size,0,none⟩)] (w.alloc (.cells #[.slice none 0 0] 36))
 go_enter Tryd.func70,Tryd.ntmps70
 go_wp2_with (go_at_call 86;refine key.mono ?_;rintro e w' ⟨rfl,os,rfl⟩)
 go_end0
 exact⟨rfl, #[.cells #[.slice none 0 0] 36]++os,by rw[alloc_eq_grow,grow_grow]⟩
open Go Go.RowKit Go.Eng
open Go.Sort (flatK get_flatK size_flatK HoldsK putRowK putCells pdq pdq_sorts PermIn SortedIn onCells mapBlock)
theorem put_list (pre vs tail:List Value) (X:Array Value) (h:X.size=vs.length):putCells id pre.length X (pre++(vs++tail)).toArray=(pre++(X.toList++tail)).toArray:=by
 apply Array.ext'
 unfold putCells
 rw[Array.toList_mapIdx]
 apply List.ext_getElem?
 intro i
 simp only[List.getElem?_mapIdx]
 have hX:X.toList.length=X.size:=Array.length_toList
 rcases Nat.lt_or_ge i pre.length with h1 | h1
 ·rw[List.getElem?_append_left h1,List.getElem?_append_left h1,List.getElem?_eq_getElem h1]
  simp only[Option.map_some]
  rw[if_neg (by omega)]
 ·rw[List.getElem?_append_right h1,List.getElem?_append_right h1]
  rcases Nat.lt_or_ge (i-pre.length) vs.length with h2 | h2
  ·rw[List.getElem?_append_left h2,List.getElem?_append_left (by omega),List.getElem?_eq_getElem h2,List.getElem?_eq_getElem (by omega)]
   simp only[Option.map_some,id]
   rw[if_pos ⟨h1,by omega⟩,getElem!_pos X _ (by omega)]
   simp
  ·rw[List.getElem?_append_right h2,List.getElem?_append_right (by omega),show i-pre.length-X.toList.length=i-pre.length-vs.length by omega]
   cases ht:tail[i-pre.length-vs.length]? with
   | none=>rfl
   | some v=>
    simp only[Option.map_some]
    rw[if_neg (by omega)]
theorem nvals_at (l:List Nd) (q r:Nat) (hq:q<l.length) (hr:r<65):(ah l)[q*65+r]? =(l.getD q zn).vals[r]? :=by
 rw[←List.getElem?_drop,qJ,List.drop_eq_getElem_cons hq]
 rw[show ah (l[q]::l.drop (q+1))=(l[q]).vals++ah (l.drop (q+1)) from rfl,List.getElem?_append_left (by rw[lenV];exact hr)]
 simp[hq]
theorem flat_list (d:Array Nd):(flatK Nd.vals 65 d).toList=ah d.toList:=by
 apply List.ext_getElem?
 intro i
 have hs:(flatK Nd.vals 65 d).toList.length=d.size*65:=by rw[Array.length_toList,size_flatK]
 have hl:(ah d.toList).length=d.size*65:=by rw[bH,Array.length_toList]
 rcases Nat.lt_or_ge i (d.size*65) with h | h
 ·have h0:=get_flatK Nd.vals 65 d i h
  rw[getElem!_pos _ i (by rw[size_flatK];exact h)] at h0
  have hq:i/65<d.size:=Nat.div_lt_of_lt_mul (by omega)
  have hr:i%65<65:=Nat.mod_lt _ (by omega)
  have e:i=i/65*65+i%65:=by omega
  rw[Array.getElem?_toList,Array.getElem?_eq_getElem (by rw[size_flatK];exact h),h0]
  conv=>rhs;rw[e]
  rw[nvals_at d.toList _ _ (by rw[Array.length_toList];exact hq) hr]
  have e2:d[i/65]! =d.toList.getD (i/65) zn:=by
   rw[getElem!_pos d _ hq]
   simp[hq]
  rw[e2,getElem!_pos _ _ (by rw[lenV];exact hr),List.getElem?_eq_getElem (by rw[lenV];exact hr)]
 ·rw[List.getElem?_eq_none (by omega),List.getElem?_eq_none (by omega)]
noncomputable def bX (l:List Nd):List Nd:=(mU l.toArray).toList
theorem sortA_size (d:Array Nd):(mU d).size=d.size:=by
 unfold mU
 split
 ·exact(pdq_sorts ltS swo_ltS d 0 d.size (Lib.bitLen d.size) true true (Nat.zero_le _) (Nat.le_refl _) (Or.inl rfl)).1.1
 ·rfl
theorem jk (l:List Nd):(bX l).length=l.length:=by unfold bX;rw[Array.length_toList,sortA_size];simp
theorem mQ (l:List Nd):(bX l).Perm l:=by
 unfold bX mU
 split
 ·have h:=(pdq_sorts ltS swo_ltS l.toArray 0 l.toArray.size (Lib.bitLen l.toArray.size) true true (Nat.zero_le _) (Nat.le_refl _) (Or.inl rfl)).1
  have h3:=h.2.2
  have hs:=h.1
  generalize pdq ltS l.toArray 0 l.toArray.size (Lib.bitLen l.toArray.size) true true=d at h3 hs ⊢
  rw[←hs,Array.extract_size,hs,Array.extract_size] at h3
  exact h3
 ·exact List.Perm.refl _
theorem sortL_sorted (l:List Nd) (i j:Nat) (hi:i<j) (hj:j<l.length):ltS ((bX l).getD j zn) ((bX l).getD i zn)=false:=by
 have hl:=jk l
 unfold bX mU at*
 split
 ·rename_i h2
  rw[if_pos h2] at hl
  have h:=(pdq_sorts ltS swo_ltS l.toArray 0 l.toArray.size (Lib.bitLen l.toArray.size) true true (Nat.zero_le _) (Nat.le_refl _) (Or.inl rfl)).2 i j (Nat.zero_le _) hi (by simpa using hj)
  generalize pdq ltS l.toArray 0 l.toArray.size (Lib.bitLen l.toArray.size) true true=d at h hl ⊢
  rw[Array.length_toList] at hl
  have e:∀k,k<l.length→d[k]! =d.toList.getD k zn:=fun k hk=>by
   rw[getElem!_pos d k (by omega)]
   simp[show k<d.size by omega]
  rw[←e i (by omega),←e j (by omega)]
  exact h
 ·rename_i h2
  simp at h2
  omega
theorem holds_of {w:World} {a s:Nat} {l:List Nd} {pre tail:List Value} {ty:TypeId} {fr:Nat × Nat} (hh:w.heap[a]? =some (.cells (pre++(ah l++tail)).toArray ty fr)) (hp:pre.length=s) (hfr:FrOk fr (pre++(ah l++tail)).length):HoldsK Nd.vals 65 w a s l.toArray:=by
 intro j hj
 rw[size_flatK] at hj
 have hl:(ah l).length=l.length*65:=bH l
 have hj2:j<(ah l).length:=by rw[hl];simpa using hj
 have hf:=flat_list l.toArray
 constructor
 ·have h1:w.cell? ⟨a,s+j,none⟩=(pre++(ah l++tail))[s+j]? :=by simp[World.cell?,hh]
  rw[h1,List.getElem?_append_right (by omega),List.getElem?_append_left (by omega),show s+j-pre.length=j by omega]
  rw[getElem!_pos _ j (by rw[size_flatK];exact hj)]
  have h2:(flatK Nd.vals 65 l.toArray).toList[j]? =some ((flatK Nd.vals 65 l.toArray)[j]'(by rw[size_flatK];exact hj)):=by
   rw[Array.getElem?_toList,Array.getElem?_eq_getElem]
  rw[hf] at h2
  exact h2
 ·obtain⟨lo,hi⟩:=fr
  have hlen:(pre++(ah l++tail)).length=pre.length+((ah l).length+tail.length):=by rw[List.length_append,List.length_append]
  simp only[World.frozen?,hh]
  rcases hfr with h | h
  ·simp only at h;subst h;simp
   try omega
  ·simp only at h;rw[hlen] at h;simp;omega
noncomputable def sort_con {G:Glob}:Con Tryd.prog G where
 f:=70
 spec:=fun m _ args=>match args with
  | [.o (.a (.slg k n))]=>match m k with
   | some ⟨true,_,.grv s vs lo hi⟩=>some (.t [],.upd k (.grv 65 (ah (bX (ak vs))) lo hi),[s=65,vs=ah (ak vs),(ak vs).length=n,n<4611686018427387904])
   | _=>none
  | [.o (.a (.v (.slice none 0 0)))]=>some (.t [],.none,[])
  | _=>none
 ok:=fun m fr args r e c N w0 β w h hc hm hf0 hids=>by
  refine .inl ⟨iX Tryd.func70 (by kernel_rfl) (by kernel_rfl) _ w,?_⟩
  split at h<;>try cases h
  ·rename_i k n
   split at h<;>cases h
   rename_i ty s vs lo hi hb
   obtain⟨rfl,hvs,hn,hlt,_⟩:=hc
   obtain⟨fr0,pre,C,hh,hp,hC,hown⟩:=hm.blk k _ hb
   obtain⟨tail,rfl,hr1,hr2,hr3⟩:=hC
   obtain⟨hw,hfr⟩:=hown rfl
   generalize ak vs=l at*
   subst hvs
   have ha:(β k).a<w.heap.size:=(Array.getElem?_eq_some_iff.1 hh).1
   have hH:=holds_of hh hp hfr
   have key:=sort_calls (β k).a (β k).s (β k).c l.toArray (by simpa [hn] using hlt) w hH ha
   have e1:([SV.o (.a (.slg k n))].map (SV.den β)).toArray= #[.slice (some ⟨(β k).a,(β k).s,none⟩) l.toArray.size (β k).c]:=by
    simp[SV.den,SV1.den,Atom.den,Loc.at,hn]
   rw[e1]
   refine key.mono ?_
   rintro en w' ⟨rfl,q,os,rfl⟩
   refine⟨β,rfl,fun _ _=>rfl,?_,fun k hk=>by cases hk⟩
   have hsz:(flatK Nd.vals 65 (mU l.toArray)).size=(ah l).length:=by rw[size_flatK,sortA_size,bH];simp
   have hheap:(putRowK Nd.vals 65 (Sort.ahead w q) (β k).a (β k).s (mU l.toArray)).heap=w.heap.modify (β k).a (onCells (putCells id (β k).s (flatK Nd.vals 65 (mU l.toArray)))):=rfl
   have hm1:bG N w0 (Eff.app m 0 (.upd k (.grv 65 (ah (bX l)) lo hi))) β (putRowK Nd.vals 65 (Sort.ahead w q) (β k).a (β k).s (mU l.toArray)):=by
    refine hm.set hb rfl (r:= .grv 65 (ah (bX l)) lo hi) (pre:=pre) (C:=ah (bX l)++tail) hp ⟨tail,rfl,?_,hr2,hr3⟩ (fun j hj=>by cases hj) ?_ ?_ (fun i hi=> ?_) (fr:=fr0) ?_ ?_
    ·rw[←hr1];simp only[List.length_append,bH,jk]
    ·refine⟨hm.below.os,hm.below.tape,hm.below.output,by rw[hheap,Array.size_modify];exact hm.below.size,fun j hj hx=> ?_⟩
     rw[hheap,Array.getElem?_modify,if_neg (fun e=> ?_)]
     ·exact hm.below.block j hj hx
     ·rcases hw with hw | hw
      ·omega
      ·exact hx (e ▸ hw)
    ·rw[hheap,Array.size_modify]
    ·rw[hheap,Array.getElem?_modify,if_neg (fun e=>hi e.symm)]
    ·have:(pre++(ah (bX l)++tail)).length=(pre++(ah l++tail)).length:=by simp only[List.length_append,bH,jk]
     rw[this];exact hfr
    ·rw[hheap,Array.getElem?_modify,if_pos rfl,hh]
     show some (Obj.cells (putCells id (β k).s _ _) ty fr0)=_
     rw[←hp,put_list pre (ah l) tail _ hsz,flat_list]
     rfl
   exact hm1.later ⟨rfl,rfl,rfl,by rw[Sort.size_grow];omega,fun j hj=>Sort.heap_grow_old _ os hj⟩
  ·refine(sort_nil w).mono ?_
   rintro en w' ⟨rfl,os,rfl⟩
   exact⟨β,rfl,fun _ _=>rfl,hm.later ⟨rfl,rfl,rfl,by rw[Sort.size_grow];omega,fun j hj=>Sort.heap_grow_old _ os hj⟩,fun k hk=>by cases hk⟩
 loc:=fun m m' fr fr' args r e c hm hd h hn=>by
  split at h<;>try cases h
  ·rename_i k n
   show(match m' k with
    | some ⟨true,_,.grv s vs lo hi⟩=>some (SV.t [],Eff.upd k (.grv 65 (ah (bX (ak vs))) lo hi),[s=65,vs=ah (ak vs),(ak vs).length=n,n<4611686018427387904])
    | _=>none)=_
   rw[hm _ (List.mem_singleton.2 rfl) k (by simp[SV.ids,SV1.ids,Atom.ids])]
   exact h
  ·rfl
 upd:=fun m fr args r k row c h=>by
  split at h<;>try cases h
  ·rename_i k n
   split at h<;>cases h
   rename_i hb
   rw[hb];rfl
end Go.Proofs.YtdccehmekkcheaaDoor

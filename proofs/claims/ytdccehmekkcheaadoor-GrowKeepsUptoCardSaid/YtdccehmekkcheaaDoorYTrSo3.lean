/- Package tree: Sort: what it leaves, to the world. -/
import Derived.Test.YtdccehmekkcheaaDoorYTrLay
import Derived.Test.YtdccehmekkcheaaDoorYTrSo2
import Derived.Shelf.GgSortFunc.Tiny
import Derived.Shelf.SlSortFuncK.WholeK
namespace Go.Proofs.YtdccehmekkcheaaDoor
open Go Go.RowKit Go.Shelf Go.Lib Go.Sort
set_option linter.unusedVariables false
set_option linter.unusedSimpArgs false
set_option maxRecDepth 100000
instance:Inhabited Nd:=⟨zn⟩
noncomputable def ltS (a b:Nd):Bool:=decide (cmpI a.pre.to b.pre.to<0)
theorem cb_irr:∀a:List UInt8,compareBytes a a=0
 | []=>rfl
 | x::r=>by unfold compareBytes;rw[if_neg (by simp),if_neg (by simp)];exact cb_irr r
theorem cb_trans:∀a b c:List UInt8,compareBytes a b<0→compareBytes b c<0→compareBytes a c<0
 | [],[],_,h,_=>by simp[compareBytes] at h
 | [],_::_,[],_,h=>by simp[compareBytes] at h
 | [],_::_,_::_,_,_=>by simp[compareBytes]
 | _::_,[],_,h,_=>by simp[compareBytes] at h
 | _::_,_::_,[],_,h=>by simp[compareBytes] at h
 | x::a,y::b,z::c,h,k=>by
  unfold compareBytes at h k ⊢
  by_cases h1:x<y
  ·by_cases h2:y<z
   ·rw[if_pos (UInt8.lt_trans h1 h2)];omega
   ·rw[if_neg h2] at k
    by_cases h3:z<y
    ·rw[if_pos h3] at k;omega
    ·have:y=z:=UInt8.le_antisymm (UInt8.not_lt.1 h3) (UInt8.not_lt.1 h2)
     subst this
     rw[if_pos h1];omega
  ·rw[if_neg h1] at h
   by_cases h3:y<x
   ·rw[if_pos h3] at h;omega
   ·rw[if_neg h3] at h
    have:x=y:=UInt8.le_antisymm (UInt8.not_lt.1 h3) (UInt8.not_lt.1 h1)
    subst this
    by_cases h2:x<z
    ·rw[if_pos h2];omega
    ·rw[if_neg h2] at k ⊢
     by_cases h4:z<x
     ·rw[if_pos h4] at k;omega
     ·rw[if_neg h4] at k ⊢
      exact cb_trans a b c h k
theorem cb_ntrans:∀a b c:List UInt8,¬compareBytes a b<0→¬compareBytes b c<0→¬compareBytes a c<0
 | [],[],_,_,k=>k
 | [],_::_,_,h,_=>by simp[compareBytes] at h
 | _::_,_,[],_,_=>by simp[compareBytes]
 | _::_,[],_::_,_,k=>by simp[compareBytes] at k
 | x::a,y::b,z::c,h,k=>by
  unfold compareBytes at h k ⊢
  by_cases h1:x<y
  ·rw[if_pos h1] at h;omega
  ·rw[if_neg h1] at h
   by_cases k1:y<z
   ·rw[if_pos k1] at k;omega
   ·rw[if_neg k1] at k
    by_cases h3:y<x
    ·have:z<x:=UInt8.lt_of_le_of_lt (UInt8.not_lt.1 k1) h3
     rw[if_neg (UInt8.lt_asymm this),if_pos this];omega
    ·rw[if_neg h3] at h
     have:x=y:=UInt8.le_antisymm (UInt8.not_lt.1 h3) (UInt8.not_lt.1 h1)
     subst this
     rw[if_neg k1]
     by_cases k3:z<x
     ·rw[if_pos k3];omega
     ·rw[if_neg k3] at k ⊢
      exact cb_ntrans a b c h k
theorem swo_ltS:SWO ltS where
 irrefl x:=by unfold ltS cmpI;rw[cb_irr];rfl
 trans x y z h k:=by unfold ltS cmpI at*;exact decide_eq_true (cb_trans _ _ _ (of_decide_eq_true h) (of_decide_eq_true k))
 ntrans x y z h k:=by unfold ltS cmpI at*;exact decide_eq_false (cb_ntrans _ _ _ (of_decide_eq_false h) (of_decide_eq_false k))
theorem lenV (x:Nd):x.vals.length=65:=Nd.bR x
noncomputable def svT:TypeInfo:=(Tryd.prog.info? 36).get (by kernel_rfl)
noncomputable def svE:TypeInfo:=(Tryd.prog.info? 33).get (by kernel_rfl)
theorem svK (n:Nat) (h2:2≤n):swapperK n svE 25=9:=by
 have a:svE.hasPointers=false:=by kernel_rfl
 have b:svE.bytes=72:=by kernel_rfl
 have c:(n==0)=false:=by simp;omega
 have d:(n==1)=false:=by simp;omega
 simp[swapperK,a,b,c,d]
noncomputable def sortA (d:Array Nd):Array Nd:=if 2≤d.size then pdq ltS d 0 d.size (Lib.bitLen d.size) true true else d
theorem less_reads (blk off c Bs:Nat) (d:Array Nd) (hsz:d.size<4611686018427387904) (w:World) (hH:HoldsK Nd.vals 65 w blk off d) (hblk:blk<w.heap.size)
  (hBs:w.cell? ⟨Bs,0,none⟩=some (.slice (some ⟨blk,off,none⟩) d.size c)) (hB1:Bs<w.heap.size) (hB2:Bs≠blk):
  LessReadsK Tryd.prog 87 #[.pointer (some ⟨Bs,0,none⟩)] Nd.vals 65 ltS blk off d.size w:=by
 intro m os dk hs i j hi hj
 have e:sortWorldK Nd.vals 65 w blk off m dk os=putRowK Nd.vals 65 (grow (Sort.ahead w m) os) blk off dk:=by
  unfold sortWorldK;rw[putRowK_grow _ _ (Sort.ahead w m) _ blk off _ hblk]
 have hHg:HoldsK Nd.vals 65 (grow (Sort.ahead w m) os) blk off d:=holdsK_grow _ _ _ _ blk off d hblk (holdsK_ahead _ _ _ _ _ _ _ hH)
 refine less_calls blk off c Bs d.size _ (fun t=>dk[t]!.pre.to) (fun _=>rfl) ?_ (fun t ht k z hz=> ?_) i j hi hj (by omega)
 ·rw[e,cell?_putRowK_other _ _ _ blk off dk _ (by exact hB2),cell?_grow _ _ _ (by exact hB1)];exact hBs
 ·have hk:k<32:=by
   have:dk[t]!.pre.to.length=32:=rfl
   have:=(List.getElem?_eq_some_iff.1 hz).1
   omega
  have:=((holdsK_putRowK _ _ _ blk off d dk hHg hs).cell (i:=t) (c:=1+k) (by omega) (by omega)).1
  rw[e,show off+t*65+1+k=off+t*65+(1+k) by omega,this]
  have e2:dk[t]!.vals= .int .i64 dk[t]!.len::((dk[t]!.pre.to++dk[t]!.hash.to).map (Value.int .u8)):=rfl
  rw[e2,getElem!_def,Nat.add_comm,List.getElem?_cons_succ,List.getElem?_map,List.getElem?_append_left (by exact hk),hz]
  rfl
theorem slice_calls (blk off c Bs:Nat) (d:Array Nd) (hsz:d.size<4611686018427387904) (w:World) (hH:HoldsK Nd.vals 65 w blk off d) (hblk:blk<w.heap.size)
  (hBs:w.cell? ⟨Bs,0,none⟩=some (.slice (some ⟨blk,off,none⟩) d.size c)) (hB1:Bs<w.heap.size) (hB2:Bs≠blk):
  Calls Tryd.prog 86 #[.iface 36 (.slice (some ⟨blk,off,none⟩) d.size c),.func (.func 87) #[] #[.pointer (some ⟨Bs,0,none⟩)]] w fun e w'=>
   e= .returned (.tuple #[])∧∃n os,w'=grow (putRowK Nd.vals 65 (Sort.ahead w n) blk off (sortA d)) os:=by
 by_cases h2:2≤d.size
 ·unfold sortA
  rw[if_pos h2]
  exact Any.sort_Slice_cells_eq sv6 36 33 svT svE (by kernel_rfl) (by kernel_rfl) (by kernel_rfl) (by kernel_rfl) 25 (fun _=>by kernel_rfl) Nd.vals 65 lenV (by kernel_rfl) (fun _=>by kernel_rfl)
   (fun x v hv=>oneL [x] v (by rw[nvals_one];exact hv)) ltS swo_ltS 87 _
   (enters_of Tryd.func87 (by kernel_rfl) rfl) blk off c d h2 hsz 110 (by rw[svK _ h2];kernel_rfl) false
   (fun args W=>run_callFunc_extern Tryd.func110 (by kernel_rfl) (by kernel_rfl) (by kernel_rfl) (e:=Extern.ReflectliteSwapper.swap false) (by kernel_rfl) args W) w (less_reads blk off c Bs d hsz w hH hblk hBs hB1 hB2) hH hblk
 ·unfold sortA
  rw[if_neg h2]
  have hself:putRowK Nd.vals 65 (Sort.ahead w 0) blk off d=w:=putRowK_self _ _ _ _ _ _ hH
  rcases Nat.lt_or_ge d.size 1 with h0 | h1
  ·refine(Any.sort_Slice_tiny sv6 36 33 svT svE (by kernel_rfl) (by kernel_rfl) (by kernel_rfl) (by kernel_rfl) 25 (fun _=>by kernel_rfl) _ d.size c (by omega) 102 (by rw[show d.size=0 by omega];kernel_rfl) _ _ _ w).mono ?_
   rintro e w' ⟨rfl,os,rfl⟩
   exact⟨rfl,0,os,by rw[hself]⟩
  ·refine(Any.sort_Slice_tiny sv6 36 33 svT svE (by kernel_rfl) (by kernel_rfl) (by kernel_rfl) (by kernel_rfl) 25 (fun _=>by kernel_rfl) _ d.size c (by omega) 103 (by rw[show d.size=1 by omega];kernel_rfl) _ _ _ w).mono ?_
   rintro e w' ⟨rfl,os,rfl⟩
   exact⟨rfl,0,os,by rw[hself]⟩
end Go.Proofs.YtdccehmekkcheaaDoor

/- Package tree: Sort, walked to the world. -/
import Derived.Test.YtdccehmekkcheaaDoorYTrSo3
namespace Go.Proofs.YtdccehmekkcheaaDoor
open Go Go.RowKit Go.Shelf Go.Lib Go.Sort
set_option linter.unusedVariables false
set_option linter.unusedSimpArgs false
set_option maxRecDepth 100000
theorem sort_calls (blk off c:Nat) (d:Array Nd) (hsz:d.size<4611686018427387904) (w:World) (hH:HoldsK Nd.vals 65 w blk off d) (hblk:blk<w.heap.size):
  Calls Tryd.prog 70 #[.slice (some ⟨blk,off,none⟩) d.size c] w fun e w'=>e= .returned (.tuple #[])∧∃n os,w'=grow (putRowK Nd.vals 65 (Sort.ahead w n) blk off (sortA d)) os:=by
 have key:=slice_calls blk off c w.heap.size d hsz (w.alloc (.cells #[.slice (some ⟨blk,off,none⟩) d.size c] 36)) (by rw[alloc_eq_grow];exact holdsK_grow _ _ _ _ blk off d hblk hH) (by rw[alloc_eq_grow,size_grow];omega)
  (by rw[World.cell?_alloc_new];rfl) (by rw[alloc_eq_grow,size_grow];simp) (by omega)
 go_enter Tryd.func70,Tryd.ntmps70
 go_wp2_with (go_at_call 86;refine key.mono ?_;rintro e w' ⟨rfl,n,os,rfl⟩)
 go_end0
 exact⟨rfl,n, #[.cells #[.slice (some ⟨blk,off,none⟩) d.size c] 36]++os,by rw[alloc_eq_grow,ahead_grow,putRowK_grow Nd.vals 65 (Sort.ahead w n) _ blk off _ hblk,grow_grow]⟩
theorem sort_nil (w:World):
  Calls Tryd.prog 70 #[.slice none 0 0] w fun e w'=>e= .returned (.tuple #[])∧∃os,w'=grow w os:=by
 have key:=Any.sort_Slice_tiny sv6 36 33 svT svE (by kernel_rfl) (by kernel_rfl) (by kernel_rfl) (by kernel_rfl) 25 (fun _=>by kernel_rfl) none 0 0 (by omega) 102 (by kernel_rfl) (.func 87) #[] #[.pointer (some ⟨w.heap.size,0,none⟩)] (w.alloc (.cells #[.slice none 0 0] 36))
 go_enter Tryd.func70,Tryd.ntmps70
 go_wp2_with (go_at_call 86;refine key.mono ?_;rintro e w' ⟨rfl,os,rfl⟩)
 go_end0
 exact⟨rfl, #[.cells #[.slice none 0 0] 36]++os,by rw[alloc_eq_grow,grow_grow]⟩
end Go.Proofs.YtdccehmekkcheaaDoor

/- Chain and At of a nil list; the law KeyringLists: its second half. -/
import Derived.Test.YthlmepolmemejaaGreatDoorLFo
import Derived.Test.YthlmepolmemejaaGreatDoorLMade
set_option linter.unusedSimpArgs false
set_option linter.unusedVariables false
namespace Go.Proofs.YthlmepolmemejaaGreatDoor
open Go Go.Eng Go.RowKit
set_option maxRecDepth 100000
theorem vO {α:Type} (vs:List α) {k:Nat} (h:vs.length=k):(vs.drop (0+0)).take k=vs:=by
 rw[Nat.add_zero,List.drop_zero,List.take_of_length_le (by omega)]
namespace rch
namespace nl
def m (k:Keys) (a:Option Addr):List Blk:=[⟨true,28,.lit k.row⟩,⟨true,28,.lit k.row⟩]
def M0 (a:Option Addr):List (Option SV):=aJ 62 0 [(1,.o (.a (.v (.slice a 0 0)))),(6,.o (.a (.slc 1 0 1 1)))]
def M1 (a:Option Addr):List (Option SV):=aJ 62 0 [(1,.o (.a (.v (.slice a 0 0)))),(6,.o (.a (.slc 1 0 1 1))),(12,.o (.a (aB .i64 0))),(13,.o (.a (aB .i64 0)))]
def M2 (a:Option Addr):List (Option SV):=aJ 62 0 [(6,.o (.a (.slc 1 0 1 1)))]
def M3 (a:Option Addr):List (Option SV):=aJ 62 0 [(4,.o (.a (.slc 1 0 1 1))),(5,.o (.a (aB .i64 0)))]
section
variable (k:Keys) (a:Option Addr)
theorem i0:oI (M0 a) (m k a):=by delta oI;kernel_rfl
theorem i1:oI (M1 a) (m k a):=by delta oI;kernel_rfl
theorem i2:oI (M2 a) (m k a):=by delta oI;kernel_rfl
theorem i3:oI (M3 a) (m k a):=by delta oI;kernel_rfl
theorem s0:oX ([]:Cons Tryz.prog G3) 300 (dU 2 body) (aH fn [aO.enc k,.o (.a (.v (.slice a 0 0)))]) [] [] .normal (M0 a) (m k a) []:=by delta oX;kernel_rfl
theorem a1 (g:Nat→SV):oX ([]:Cons Tryz.prog G3) 300 A1 (fill g 0 (M0 a )) (m k a) [] .normal (M1 a) (m k a) []:=by delta oX;kernel_rfl
theorem o (g:Nat→SV):oX ([]:Cons Tryz.prog G3) 300 L (fill g 0 (M1 a )) (m k a) [] (.exit 0) (M2 a) (m k a) []:=by delta oX;kernel_rfl
theorem fin (g:Nat→SV):oX ([]:Cons Tryz.prog G3) 300 D (fill g 0 (M2 a )) (m k a) [] .ret (M3 a) (m k a) []:=by delta oX;kernel_rfl
theorem zr (g:Nat→SV):eRes tys (fill g 0 (M3 a )) (fun k'=>(m k a )[k']?) fn.results.toList=some [.a (.slc 1 0 1 1),.a (aB .i64 0)]:=by kernel_rfl
theorem run:aK Tryz.prog G3 0 body (aH fn [aO.enc k,.o (.a (.v (.slice a 0 0)))]) [] (aN tys fn (bA chZ (.new 28 (.lit k.row)))):=by
 refine Runs.bS ah mixed 2 (s0 k a) trivial (i0 k a) rfl fun g=> ?_
 rw[fV]
 refine Runs.seq (Runs.seq (Runs.au ah mixed (a1 k a g) trivial (i1 k a) rfl fun g=> ?_))
 refine Runs.block ?_
 refine Runs.dS (fun(_:Unit)=>M1 a) (fun _=>m k a) (fun _=>True) (fun _=>0) ?_ () trivial g
 rintro _ g _
 refine Runs.au ah mixed (o k a g) trivial (i2 k a) rfl fun g=> ?_
 show aK _ _ _ _ _ _ _
 exact Runs.au ah mixed (fin k a g) trivial (i3 k a) rfl fun g=>aN.ret (zr k a g) ⟨1,rfl,rfl⟩
end
end nl
def specN:List aV→Option (SV × dh × Cst)
 | [.val v,.val (.o (.a (.v (.slice a 0 0))))]=>match aO.dec v with
  | some k=>some (chZ,.new 28 (.lit k.row),[])
  | none=>none
 | _=>none
noncomputable def conN:Con Tryz.prog G3:=Con.parts ah 11 fn Tryz.func11 (by kernel_rfl) (c:=body) (by kernel_rfl) [.val,.winv 130] specN
 (fun ps r e p h hp=>by
  unfold specN at h
  split at h
  ·split at h<;>cases h
   exact⟨rfl,fun b hb=>by simp[bG,aV.blk] at hb⟩
  ·cases h)
 (fun ps r e p cap h hp hi=>by
  unfold specN at h
  split at h
  ·split at h<;>cases h
   rename_i k hk
   have:=aO.ok _ _ hk
   subst this
   exact nl.run k _
  ·cases h)
end rch
namespace rat
namespace nla
def m (k:Keys) (a:Option Addr) (ep:Int) (z:Keys):List Blk:=[⟨true,28,.lit k.row⟩,⟨true,28,.lit z.row⟩,⟨true,28,.lit k.row⟩]
def M0 (a:Option Addr):List (Option SV):=aJ 29 0 [(1,.o (.a (.v (.slice a 0 0)))),(6,.o (.a (.ptr 1 0))),(7,.o (.a (.ptr 2 0)))]
def M1 (a:Option Addr):List (Option SV):=aJ 29 0 [(1,.o (.a (.v (.slice a 0 0)))),(6,.o (.a (.ptr 1 0))),(7,.o (.a (.ptr 2 0))),(11,.o (.a (aB .i64 0))),(12,.o (.a (aB .i64 0)))]
def M3 (a:Option Addr):List (Option SV):=aJ 29 0 [(6,.o (.a (.ptr 1 0)))]
section
variable (k:Keys) (a:Option Addr) (ep:Int)
theorem i0 (z:Keys):oI (M0 a) (m k a ep z):=by delta oI;kernel_rfl
theorem i1 (z:Keys):oI (M1 a) (m k a ep z):=by delta oI;kernel_rfl
theorem i3 (z:Keys):oI (M3 a) (m k a ep z):=by delta oI;kernel_rfl
theorem s0:oX ([]:Cons Tryz.prog G3) 300 (dU 2 body) (aH fn [aO.enc k,.o (.a (.v (.slice a 0 0))),.o (.a (aB .u64 ep))]) [] [] .normal (M0 a) (m k a ep zk) []:=by delta oX;kernel_rfl
theorem a1 (g:Nat→SV):oX ([]:Cons Tryz.prog G3) 300 A1 (fill g 0 (M0 a )) (m k a ep zk) [] .normal (M1 a) (m k a ep zk) []:=by delta oX;kernel_rfl
theorem o (g:Nat→SV):oX ([]:Cons Tryz.prog G3) 300 L (fill g 0 (M1 a )) (m k a ep zk) [] (.exit 0) (M0 a) (m k a ep zk) []:=by delta oX;kernel_rfl
theorem fin (g:Nat→SV):oX ([]:Cons Tryz.prog G3) 300 D (fill g 0 (M0 a )) (m k a ep zk) [] .ret (M3 a) (m k a ep k) []:=by delta oX;kernel_rfl
theorem zr (g:Nat→SV):eRes tys (fill g 0 (M3 a )) (fun k'=>(m k a ep k)[k']?) fn.results.toList=some [.g k.row]:=by kernel_rfl
theorem run:aK Tryz.prog G3 0 body (aH fn [aO.enc k,.o (.a (.v (.slice a 0 0))),.o (.a (aB .u64 ep))]) [] (aN tys fn (bA (aO.enc k) .none)):=by
 refine Runs.bS ah mixed 2 (s0 k a ep) trivial (i0 k a ep _) rfl fun g=> ?_
 rw[fV]
 refine Runs.seq (Runs.seq (Runs.au ah mixed (a1 k a ep g) trivial (i1 k a ep _) rfl fun g=> ?_))
 refine Runs.block ?_
 refine Runs.dS (fun(_:Unit)=>M1 a) (fun _=>m k a ep zk) (fun _=>True) (fun _=>0) ?_ () trivial g
 rintro _ g _
 refine Runs.au ah mixed (o k a ep g) trivial (i0 k a ep _) rfl fun g=> ?_
 show aK _ _ _ _ _ _ _
 exact Runs.au ah mixed (fin k a ep g) trivial (i3 k a ep _) rfl fun g=>aN.ret (zr k a ep g) rfl
end
end nla
def specN:List aV→Option (SV × dh × Cst)
 | [.val v,.val (.o (.a (.v (.slice a 0 0)))),.val (.o (.a (.v (.int .u64 ep))))]=>match aO.dec v with
  | some k=>some (aO.enc k,.none,[])
  | none=>none
 | _=>none
noncomputable def conN:Con Tryz.prog G3:=Con.parts ah 12 fn Tryz.func12 (by kernel_rfl) (c:=body) (by kernel_rfl) [.val,.winv 130,.val] specN
 (fun ps r e p h hp=>by
  unfold specN at h
  split at h
  ·split at h<;>cases h
   exact⟨rfl,fun b hb=>by simp[bG,aV.blk] at hb⟩
  ·cases h)
 (fun ps r e p cap h hp hi=>by
  unfold specN at h
  split at h
  ·split at h<;>cases h
   rename_i k hk
   have:=aO.ok _ _ hk
   subst this
   exact nla.run k _ _
  ·cases h)
end rat
namespace lkl
noncomputable abbrev fn:=Tryz.f4
noncomputable def body:Code:=bZ fn
noncomputable def B18:Code:=bY 4 body
noncomputable def A22:Code:=cs1 (cs1 (bY 7 body))
noncomputable def L:Code:=cL (cB (cs2 (cs1 (bY 7 body))))
noncomputable def D:Code:=bY 8 body
theorem body7:bY 3 B18= .seq (.seq A22 (.block 1 (.loop L))) D:=by kernel_rfl
def MR:List (Option SV):=aJ 150 0 [(10,.o (.a (.v (.bool true))))]
theorem zr (g:Nat→SV) (mm:Nat→Option Blk):eRes tys (fill g 0 MR) mm fn.results.toList=some [.a (iO true)]:=by kernel_rfl
namespace e
def m (V:Keys→Cert→Int) (hV:V=ccV) (S:List B32) (ty:TypeId) (E:List Int) (ty':TypeId) (F:Keys) (ep:Int) (l:List Cert) (n:Nat) (us:List Value) (lo:Nat):List Blk:=[⟨false,ty,.prv (bD S)⟩,⟨false,ty',.pre .u8 E⟩,⟨true,39,.grv 130 us lo none⟩,⟨true,28,.lit F.row⟩]
def m2 (S:List B32) (ty:TypeId) (E:List Int) (ty':TypeId) (F:Keys) (us:List Value) (lo:Nat):List Blk:=[⟨false,ty,.prv (bD S)⟩,⟨false,ty',.pre .u8 E⟩,⟨true,39,.grv 130 us lo none⟩,⟨true,28,.lit F.row⟩]
def M (V:Keys→Cert→Int) (hV:V=ccV) (S:List B32) (ty:TypeId) (E:List Int) (ty':TypeId) (F:Keys) (ep:Int) (l:List Cert) (n:Nat):List (Option SV):=aJ 150 0 [(4,.o (.a (aB .u64 ep))),(11,.o (.a (.ptr 3 0))),(12,.o (.a (.slg 2 n)))]
def M2 (ep:Int) (n:Nat):List (Option SV):=aJ 150 0 [(4,.o (.a (aB .u64 ep))),(11,.o (.a (.ptr 3 0))),(12,.o (.a (.slg 2 n))),(13,.o (.a (.v (.slice none 0 0))))]
def M3 (ep:Int) (n:Nat) (j:Int):List (Option SV):=aJ 150 0 [(4,.o (.a (aB .u64 ep))),(11,.o (.a (.ptr 3 0))),(12,.o (.a (.slg 2 n))),(13,.o (.a (.v (.slice none 0 0)))),(126,.o (.a (aB .i64 0))),(127,.o (.a (aB .i64 j)))]
def M4 (ep:Int) (n:Nat):List (Option SV):=aJ 150 0 [(4,.o (.a (aB .u64 ep))),(11,.o (.a (.ptr 3 0))),(12,.o (.a (.slg 2 n)))]
theorem i (V:Keys→Cert→Int) (hV:V=ccV) (S:List B32) (ty:TypeId) (E:List Int) (ty':TypeId) (F:Keys) (ep:Int) (l:List Cert) (n:Nat) (us:List Value) (lo:Nat):oI (M V hV S ty E ty' F ep l n) (m V hV S ty E ty' F ep l n us lo):=by delta oI;kernel_rfl
section
variable (S:List B32) (ty:TypeId) (E:List Int) (ty':TypeId) (F:Keys) (ep:Int) (n:Nat) (us:List Value) (lo:Nat)
theorem i2:oI (M2 ep n) (m2 S ty E ty' F us lo):=by delta oI;kernel_rfl
theorem i3 (j:Int):oI (M3 ep n j) (m2 S ty E ty' F us lo):=by delta oI;kernel_rfl
theorem i4:oI (M4 ep n) (m2 S ty E ty' F us lo):=by delta oI;kernel_rfl
end
theorem f (V:Keys→Cert→Int) (hV:V=ccV) (S:List B32) (ty:TypeId) (E:List Int) (ty':TypeId) (F:Keys) (ep:Int) (l:List Cert) (n:Nat) (us:List Value) (lo:Nat) (g:Nat→SV):oN [0,1,2,3] ([rch.conE V hV l,kcp.conP,kch.conE V hV l]:Cons Tryz.prog G3) 100 (dU 3 B18) (fill g 0 (M V hV S ty E ty' F ep l n )) (m V hV S ty E ty' F ep l n us lo) [(117,[.b false])] .normal (M2 ep n) (m2 S ty E ty' F us lo) [0+0+n*130≤us.length,n≤lo,BOk F.sg,((us.drop (0+0)).take (n*130))=aA l,l.length=n,n≤1000000,∀i,i<n→COk (l.getD i zc),gT V l F n≠0,0+0+n*130≤us.length,n≤lo,((us.drop (0+0)).take (n*130)).length=n*130,0<n,n≤1000000,0+0+n*130≤((us.drop (0+0)).take (n*130)).length,n≤n,((((us.drop (0+0)).take (n*130)).drop (0+0)).take (n*130))=aA l,l.length=n,n≤1000000,∀i,i<n→COk (l.getD i zc),gT V l F n≠0,(!(gT V l F n==gT V l F n))=false]:=by delta oN;kernel_rfl
theorem a (V:Keys→Cert→Int) (hV:V=ccV) (S:List B32) (ty:TypeId) (E:List Int) (ty':TypeId) (F:Keys) (ep:Int) (l:List Cert) (n:Nat) (us:List Value) (lo:Nat) (g:Nat→SV):oX ([]:Cons Tryz.prog G3) 300 A22 (fill g 0 (M2 ep n )) (m2 S ty E ty' F us lo) [] .normal (M3 ep n 0) (m2 S ty E ty' F us lo) []:=by delta oX;kernel_rfl
theorem o (V:Keys→Cert→Int) (hV:V=ccV) (S:List B32) (ty:TypeId) (E:List Int) (ty':TypeId) (F:Keys) (ep:Int) (l:List Cert) (n:Nat) (us:List Value) (lo:Nat) (g:Nat→SV):oX ([]:Cons Tryz.prog G3) 300 L (fill g 0 (M3 ep n 0)) (m2 S ty E ty' F us lo) [] (.exit 1) (M4 ep n) (m2 S ty E ty' F us lo) []:=by delta oX;kernel_rfl
theorem fin (S:List B32) (ty:TypeId) (E:List Int) (ty':TypeId) (F:Keys) (ep:Int) (l:List Cert) (n:Nat) (us:List Value) (lo:Nat) (k:Keys) (g:Nat→SV):oN [0,1] ([kcp.conP,kat.con l,rat.con l]:Cons Tryz.prog G3) 100 D (fill g 0 (M4 ep n )) (m2 S ty E ty' F us lo) [(144,[.s (aO.enc k)]),(148,[.s (aO.enc k)]),(149,[.b true])] .ret MR ([⟨false,ty,.prv (bD S)⟩,⟨false,ty',.pre .u8 E⟩]:List Blk) [0+0+n*130≤us.length,n≤lo,((us.drop (0+0)).take (n*130)).length=n*130,0<n,n≤1000000,0+0+n*130≤((us.drop (0+0)).take (n*130)).length,n≤n,((((us.drop (0+0)).take (n*130)).drop (0+0)).take (n*130))=aA l,l.length=n,n<9223372036854775807,aO.enc (atN l ep F n)=aO.enc k,0+0+n*130≤us.length,n≤lo,((us.drop (0+0)).take (n*130))=aA l,l.length=n,n<9223372036854775807,aO.enc (atN l ep F n)=aO.enc k,nX Tryz.prog 28 (.u64::List.replicate 64 .u8),sameK k.to=true]:=by delta oN;kernel_rfl
theorem run (V:Keys→Cert→Int) (hV:V=ccV) (S:List B32) (ty:TypeId) (E:List Int) (ty':TypeId) (F:Keys) (ep:Int) (l:List Cert) (n:Nat) (us:List Value) (lo:Nat) (hu:n*130≤us.length) (hlo:n≤lo) (hsg:BOk F.sg) (hz:(us.drop (0+0)).take (n*130)=aA l) (hlen:l.length=n) (hb:n≤1000000) (hc:∀i,i<n→COk (l.getD i zc)) (he:gT V l F n≠0) (h0:0<n) (g:Nat→SV):aK Tryz.prog G3 2 B18 (fill g 0 (M V hV S ty E ty' F ep l n)) (m V hV S ty E ty' F ep l n us lo) (aN tys fn (bA (aY.enc true) .none)):=by
 have hcl:(aA l).length=n*130:=by rw[←hlen];exact fG Cert.fE l
 have hzl:((us.drop (0+0)).take (n*130)).length=n*130:=by rw[hz,hcl]
 have hz2:((((us.drop (0+0)).take (n*130)).drop (0+0)).take (n*130))=aA l:=by rw[hz];exact vO _ hcl
 refine Runs.nH ah mixed 3 [0,1,2,3] (f V hV S ty E ty' F ep l n us lo g) ⟨by omega,hlo,hsg,hz,hlen,hb,hc,he,by omega,hlo,hzl,h0,hb,by rw[hzl];omega,Nat.le_refl _,hz2,hlen,hb,hc,he,by simp,trivial⟩ (i2 S ty E ty' F ep n _ _) (by kernel_rfl) fun g=> ?_
 rw[body7]
 refine Runs.seq (Runs.seq (Runs.au ah mixed (a V hV S ty E ty' F ep l n us lo g) trivial (i3 S ty E ty' F ep n _ _ 0) rfl fun g=> ?_))
 refine Runs.block ?_
 refine Runs.dS (fun(_:Unit)=>M3 ep n 0) (fun _=>m2 S ty E ty' F us lo) (fun _=>True) (fun _=>0) ?_ () trivial g
 rintro _ g _
 refine Runs.au ah mixed (o V hV S ty E ty' F ep l n us lo g) trivial (i4 S ty E ty' F ep n _ _) rfl fun g=> ?_
 show aK _ _ _ _ _ _ _
 exact Runs.bW ah mixed [0,1] (fin S ty E ty' F ep l n us lo (atN l ep F n) g) ⟨by omega,hlo,hzl,h0,hb,by rw[hzl];omega,Nat.le_refl _,hz2,hlen,by omega,rfl,by omega,hlo,hz,hlen,by omega,rfl,qB,mP _,trivial⟩ (by kernel_rfl) rfl fun g=>aN.ret (zr g _) rfl
end e
namespace p
def m (V:Keys→Cert→Int) (hV:V=ccV) (S:List B32) (ty:TypeId) (E:List Int) (ty':TypeId) (F:Keys) (ep:Int) (l:List Cert) (n:Nat) (us:List Value) (lo:Nat):List Blk:=[⟨false,ty,.prv (bD S)⟩,⟨false,ty',.pre .u8 E⟩,⟨true,39,.grv 130 us lo none⟩,⟨true,28,.lit F.row⟩]
def m2 (S:List B32) (ty:TypeId) (E:List Int) (ty':TypeId) (F:Keys) (l:List Cert) (n:Nat) (us:List Value) (lo:Nat):List Blk:=[⟨false,ty,.prv (bD S)⟩,⟨false,ty',.pre .u8 E⟩,⟨true,39,.grv 130 us lo none⟩,⟨true,28,.lit F.row⟩,⟨true,28,.grv 65 (dL (kl l F n)) (n+1) none⟩,⟨true,28,.grv 65 (dL (kl l F n)) (n+1) none⟩]
def M (V:Keys→Cert→Int) (hV:V=ccV) (S:List B32) (ty:TypeId) (E:List Int) (ty':TypeId) (F:Keys) (ep:Int) (l:List Cert) (n:Nat):List (Option SV):=aJ 150 0 [(4,.o (.a (aB .u64 ep))),(11,.o (.a (.ptr 3 0))),(12,.o (.a (.slg 2 n)))]
def M2 (ep:Int) (n:Nat):List (Option SV):=aJ 150 0 [(4,.o (.a (aB .u64 ep))),(11,.o (.a (.ptr 3 0))),(12,.o (.a (.slg 2 n))),(13,.o (.a (.slg 4 (n+1)))),(15,.o (.a (.slg 5 (n+1))))]
def M3 (ep:Int) (n:Nat) (j:Int):List (Option SV):=aJ 150 0 [(4,.o (.a (aB .u64 ep))),(11,.o (.a (.ptr 3 0))),(12,.o (.a (.slg 2 n))),(13,.o (.a (.slg 4 (n+1)))),(15,.o (.a (.slg 5 (n+1)))),(126,.o (.a (aB .i64 (n+1)))),(127,.o (.a (aB .i64 j)))]
def M4 (ep:Int) (n:Nat):List (Option SV):=aJ 150 0 [(4,.o (.a (aB .u64 ep))),(11,.o (.a (.ptr 3 0))),(12,.o (.a (.slg 2 n)))]
theorem i (V:Keys→Cert→Int) (hV:V=ccV) (S:List B32) (ty:TypeId) (E:List Int) (ty':TypeId) (F:Keys) (ep:Int) (l:List Cert) (n:Nat) (us:List Value) (lo:Nat):oI (M V hV S ty E ty' F ep l n) (m V hV S ty E ty' F ep l n us lo):=by delta oI;kernel_rfl
section
variable (S:List B32) (ty:TypeId) (E:List Int) (ty':TypeId) (F:Keys) (ep:Int) (l:List Cert) (n:Nat) (us:List Value) (lo:Nat)
theorem i2:oI (M2 ep n) (m2 S ty E ty' F l n us lo):=by delta oI;kernel_rfl
theorem i3 (j:Int):oI (M3 ep n j) (m2 S ty E ty' F l n us lo):=by delta oI;kernel_rfl
theorem i4:oI (M4 ep n) (m2 S ty E ty' F l n us lo):=by delta oI;kernel_rfl
end
section
variable (V:Keys→Cert→Int)
theorem f (hV:V=ccV) (S:List B32) (ty:TypeId) (E:List Int) (ty':TypeId) (F:Keys) (ep:Int) (l:List Cert) (n:Nat) (us:List Value) (lo:Nat) (g:Nat→SV):oN [0,1,2,3,4,6] ([rch.conP V hV l,kcp.conP,kch.conP V hV l]:Cons Tryz.prog G3) 100 (dU 3 B18) (fill g 0 (M V hV S ty E ty' F ep l n )) (m V hV S ty E ty' F ep l n us lo) [(123,[.b false])] .normal (M2 ep n) (m2 S ty E ty' F l n us lo) [0+0+n*130≤us.length,n≤lo,BOk F.sg,((us.drop (0+0)).take (n*130))=aA l,l.length=n,n≤1000000,∀i,i<n→COk (l.getD i zc),gT V l F n=0,0<n,0+0+n*130≤us.length,n≤lo,((us.drop (0+0)).take (n*130)).length=n*130,0<n,n≤1000000,0+0+n*130≤((us.drop (0+0)).take (n*130)).length,n≤n,((((us.drop (0+0)).take (n*130)).drop (0+0)).take (n*130))=aA l,l.length=n,n≤1000000,∀i,i<n→COk (l.getD i zc),gT V l F n=0,0<n,(!(((n+1:Nat):Int)==((n+1:Nat):Int)))=false]:=by delta oN;kernel_rfl
theorem a (hV:V=ccV) (S:List B32) (ty:TypeId) (E:List Int) (ty':TypeId) (F:Keys) (ep:Int) (l:List Cert) (n:Nat) (us:List Value) (lo:Nat) (g:Nat→SV):oX ([]:Cons Tryz.prog G3) 300 A22 (fill g 0 (M2 ep n )) (m2 S ty E ty' F l n us lo) [] .normal (M3 ep n 0) (m2 S ty E ty' F l n us lo) []:=by delta oX;kernel_rfl
theorem t (hV:V=ccV) (S:List B32) (ty:TypeId) (E:List Int) (ty':TypeId) (F:Keys) (ep:Int) (l:List Cert) (n:Nat) (us:List Value) (lo:Nat) (j j':Int) (k:Keys) (g:Nat→SV):oX ([]:Cons Tryz.prog G3) 300 L (fill g 0 (M3 ep n j)) (m2 S ty E ty' F l n us lo) [(128,[.b true]),(133,[.ds (aO.enc k)]),(137,[.ds (aO.enc k)]),(138,[.b false]),(139,[.n j'])] .normal (M3 ep n j') (m2 S ty E ty' F l n us lo) [decide (j<((n+1:Nat):Int))=true,0≤j,j<((n+1:Nat):Int),0+aP 0 j 65+65≤(dL (kl l F n)).length,SV.o (.g (bR (dL (kl l F n)) (0+aP 0 j 65) 65))=aO.enc k,0≤j,j<((n+1:Nat):Int),0+aP 0 j 65+65≤(dL (kl l F n)).length,SV.o (.g (bR (dL (kl l F n)) (0+aP 0 j 65) 65))=aO.enc k,nX Tryz.prog 28 (.u64::List.replicate 64 .u8),(!(sameK k.to))=false,IntKind.i64.wrap (j+1)=j']:=by delta oX;kernel_rfl
theorem o (hV:V=ccV) (S:List B32) (ty:TypeId) (E:List Int) (ty':TypeId) (F:Keys) (ep:Int) (l:List Cert) (n:Nat) (us:List Value) (lo:Nat) (j:Int) (g:Nat→SV):oX ([]:Cons Tryz.prog G3) 300 L (fill g 0 (M3 ep n j)) (m2 S ty E ty' F l n us lo) [(128,[.b false])] (.exit 1) (M4 ep n) (m2 S ty E ty' F l n us lo) [decide (j<((n+1:Nat):Int))=false]:=by delta oX;kernel_rfl
end
theorem fin (S:List B32) (ty:TypeId) (E:List Int) (ty':TypeId) (F:Keys) (ep:Int) (l:List Cert) (n:Nat) (us:List Value) (lo:Nat) (k:Keys) (g:Nat→SV):oN [0,1] ([kcp.conP,kat.con l,rat.con l]:Cons Tryz.prog G3) 100 D (fill g 0 (M4 ep n )) (m2 S ty E ty' F l n us lo) [(144,[.s (aO.enc k)]),(148,[.s (aO.enc k)]),(149,[.b true])] .ret MR ([⟨false,ty,.prv (bD S)⟩,⟨false,ty',.pre .u8 E⟩]:List Blk) [0+0+n*130≤us.length,n≤lo,((us.drop (0+0)).take (n*130)).length=n*130,0<n,n≤1000000,0+0+n*130≤((us.drop (0+0)).take (n*130)).length,n≤n,((((us.drop (0+0)).take (n*130)).drop (0+0)).take (n*130))=aA l,l.length=n,n<9223372036854775807,aO.enc (atN l ep F n)=aO.enc k,0+0+n*130≤us.length,n≤lo,((us.drop (0+0)).take (n*130))=aA l,l.length=n,n<9223372036854775807,aO.enc (atN l ep F n)=aO.enc k,nX Tryz.prog 28 (.u64::List.replicate 64 .u8),sameK k.to=true]:=by delta oN;kernel_rfl
theorem run (V:Keys→Cert→Int) (hV:V=ccV) (S:List B32) (ty:TypeId) (E:List Int) (ty':TypeId) (F:Keys) (ep:Int) (l:List Cert) (n:Nat) (us:List Value) (lo:Nat) (hu:n*130≤us.length) (hlo:n≤lo) (hsg:BOk F.sg) (hz:(us.drop (0+0)).take (n*130)=aA l) (hlen:l.length=n) (hb:n≤1000000) (hc:∀i,i<n→COk (l.getD i zc)) (he:gT V l F n=0) (h0:0<n) (g:Nat→SV):aK Tryz.prog G3 2 B18 (fill g 0 (M V hV S ty E ty' F ep l n)) (m V hV S ty E ty' F ep l n us lo) (aN tys fn (bA (aY.enc true) .none)):=by
 have hcl:(aA l).length=n*130:=by rw[←hlen];exact fG Cert.fE l
 have hzl:((us.drop (0+0)).take (n*130)).length=n*130:=by rw[hz,hcl]
 have hz2:((((us.drop (0+0)).take (n*130)).drop (0+0)).take (n*130))=aA l:=by rw[hz];exact vO _ hcl
 refine Runs.nH ah mixed 3 [0,1,2,3,4,6] (f V hV S ty E ty' F ep l n us lo g) ⟨by omega,hlo,hsg,hz,hlen,hb,hc,he,h0,by omega,hlo,hzl,h0,hb,by rw[hzl];omega,Nat.le_refl _,hz2,hlen,hb,hc,he,h0,by simp,trivial⟩ (i2 S ty E ty' F ep l n _ _) (by kernel_rfl) fun g=> ?_
 rw[body7]
 refine Runs.seq (Runs.seq (Runs.au ah mixed (a V hV S ty E ty' F ep l n us lo g) trivial (i3 S ty E ty' F ep l n _ _ 0) rfl fun g=> ?_))
 refine Runs.block ?_
 have hkl:=uL l F n
 have ld:∀i:Nat,i≤n→SV.o (.g (bR (dL (kl l F n)) (0+aP 0 (i:Int) 65) 65))=aO.enc (lV l F i):=fun i h=>by
  rw[lT,ld_keys _ (by rw[sZ];omega),kl_get l F _ _ h]
 have lb:∀i:Nat,i≤n→0+aP 0 (i:Int) 65+65≤(dL (kl l F n)).length:=fun i h=>by
  have:=Nat.mul_le_mul_right 65 (show i+1≤n+1 by omega)
  rw[lT,hkl];omega
 refine Runs.dS (fun(k:Nat)=>M3 ep n (k:Int)) (fun _=>m2 S ty E ty' F l n us lo) (fun k=>k≤n+1) (fun k=>n+1-k) ?_ 0 (Nat.zero_le _) g
 rintro k g hk
 by_cases hkn:k=n+1
 ·refine Runs.au ah mixed (o V hV S ty E ty' F ep l n us lo (k:Int) g) ⟨decide_eq_false (by omega),trivial⟩ (i4 S ty E ty' F ep l n _ _) rfl fun g=> ?_
  show aK _ _ _ _ _ _ _
  exact Runs.bW ah mixed [0,1] (fin S ty E ty' F ep l n us lo (atN l ep F n) g) ⟨by omega,hlo,hzl,h0,hb,by rw[hzl];omega,Nat.le_refl _,hz2,hlen,by omega,rfl,by omega,hlo,hz,hlen,by omega,rfl,qB,mP _,trivial⟩ (by kernel_rfl) rfl fun g=>aN.ret (zr g _) rfl
 ·exact Runs.au ah mixed (t V hV S ty E ty' F ep l n us lo (k:Int) ((k+1:Nat):Int) (lV l F k) g) ⟨decide_eq_true (by omega),by omega,by omega,lb k (by omega),ld k (by omega),by omega,by omega,lb k (by omega),ld k (by omega),qB,by rw[mP];rfl,by rw[IntKind.wrap_i64];omega,trivial⟩ (i3 S ty E ty' F ep l n _ _ _) rfl fun g=>⟨k+1,g,rfl,rfl,by omega,by omega⟩
end p
namespace z
def m (V:Keys→Cert→Int) (hV:V=ccV) (S:List B32) (ty:TypeId) (E:List Int) (ty':TypeId) (F:Keys) (ep:Int) (us:List Value) (lo:Nat):List Blk:=[⟨false,ty,.prv (bD S)⟩,⟨false,ty',.pre .u8 E⟩,⟨true,39,.grv 130 us lo none⟩,⟨true,28,.lit F.row⟩]
def m2 (S:List B32) (ty:TypeId) (E:List Int) (ty':TypeId) (F:Keys) (us:List Value) (lo:Nat):List Blk:=[⟨false,ty,.prv (bD S)⟩,⟨false,ty',.pre .u8 E⟩,⟨true,39,.grv 130 us lo none⟩,⟨true,28,.lit F.row⟩,⟨true,28,.lit F.row⟩,⟨true,28,.lit F.row⟩]
def M (V:Keys→Cert→Int) (hV:V=ccV) (S:List B32) (ty:TypeId) (E:List Int) (ty':TypeId) (F:Keys) (ep:Int):List (Option SV):=aJ 150 0 [(4,.o (.a (aB .u64 ep))),(11,.o (.a (.ptr 3 0))),(12,.o (.a (.slg 2 0)))]
def M2 (ep:Int):List (Option SV):=aJ 150 0 [(4,.o (.a (aB .u64 ep))),(11,.o (.a (.ptr 3 0))),(12,.o (.a (.slg 2 0))),(13,.o (.a (.slc 4 0 1 1))),(15,.o (.a (.slc 5 0 1 1)))]
def M3 (ep:Int) (j:Int):List (Option SV):=aJ 150 0 [(4,.o (.a (aB .u64 ep))),(11,.o (.a (.ptr 3 0))),(12,.o (.a (.slg 2 0))),(13,.o (.a (.slc 4 0 1 1))),(15,.o (.a (.slc 5 0 1 1))),(126,.o (.a (aB .i64 1))),(127,.o (.a (aB .i64 j)))]
def M4 (ep:Int):List (Option SV):=aJ 150 0 [(4,.o (.a (aB .u64 ep))),(11,.o (.a (.ptr 3 0))),(12,.o (.a (.slg 2 0)))]
theorem i (V:Keys→Cert→Int) (hV:V=ccV) (S:List B32) (ty:TypeId) (E:List Int) (ty':TypeId) (F:Keys) (ep:Int) (us:List Value) (lo:Nat):oI (M V hV S ty E ty' F ep) (m V hV S ty E ty' F ep us lo):=by delta oI;kernel_rfl
section
variable (S:List B32) (ty:TypeId) (E:List Int) (ty':TypeId) (F:Keys) (ep:Int) (us:List Value) (lo:Nat)
theorem i2:oI (M2 ep) (m2 S ty E ty' F us lo):=by delta oI;kernel_rfl
theorem i3 (j:Int):oI (M3 ep j) (m2 S ty E ty' F us lo):=by delta oI;kernel_rfl
theorem i4:oI (M4 ep) (m2 S ty E ty' F us lo):=by delta oI;kernel_rfl
end
section
variable (V:Keys→Cert→Int)
theorem f (hV:V=ccV) (S:List B32) (ty:TypeId) (E:List Int) (ty':TypeId) (F:Keys) (ep:Int) (us:List Value) (lo:Nat) (g:Nat→SV):oN [0,1,2,3,4,6] ([rch.conZ V hV [],kcp.conZ,kch.conZ V hV []]:Cons Tryz.prog G3) 100 (dU 3 B18) (fill g 0 (M V hV S ty E ty' F ep )) (m V hV S ty E ty' F ep us lo) [] .normal (M2 ep) (m2 S ty E ty' F us lo) [0+0+0*130≤us.length,0≤lo,BOk F.sg,((us.drop (0+0)).take (0*130))=aA [],([]:List Cert).length=0,0≤1000000,∀i,i<0→COk (([]:List Cert).getD i zc),0=0,0+0+0*130≤us.length,0≤lo,0=0,0+0+0*130≤0,0≤0,((([]:List Value).drop (0+0)).take (0*130))=aA [],([]:List Cert).length=0,0≤1000000,∀i,i<0→COk (([]:List Cert).getD i zc),0=0]:=by delta oN;kernel_rfl
theorem a (hV:V=ccV) (S:List B32) (ty:TypeId) (E:List Int) (ty':TypeId) (F:Keys) (ep:Int) (us:List Value) (lo:Nat) (g:Nat→SV):oX ([]:Cons Tryz.prog G3) 300 A22 (fill g 0 (M2 ep )) (m2 S ty E ty' F us lo) [] .normal (M3 ep 0) (m2 S ty E ty' F us lo) []:=by delta oX;kernel_rfl
theorem t (hV:V=ccV) (S:List B32) (ty:TypeId) (E:List Int) (ty':TypeId) (F:Keys) (ep:Int) (us:List Value) (lo:Nat) (g:Nat→SV):oX ([]:Cons Tryz.prog G3) 300 L (fill g 0 (M3 ep 0)) (m2 S ty E ty' F us lo) [(138,[.b false])] .normal (M3 ep 1) (m2 S ty E ty' F us lo) [nX Tryz.prog 28 (.u64::List.replicate 64 .u8),(!(sameK F.to))=false]:=by delta oX;kernel_rfl
theorem o (hV:V=ccV) (S:List B32) (ty:TypeId) (E:List Int) (ty':TypeId) (F:Keys) (ep:Int) (us:List Value) (lo:Nat) (g:Nat→SV):oX ([]:Cons Tryz.prog G3) 300 L (fill g 0 (M3 ep 1)) (m2 S ty E ty' F us lo) [] (.exit 1) (M4 ep) (m2 S ty E ty' F us lo) []:=by delta oX;kernel_rfl
end
theorem fin (S:List B32) (ty:TypeId) (E:List Int) (ty':TypeId) (F:Keys) (ep:Int) (us:List Value) (lo:Nat) (k:Keys) (g:Nat→SV):oN [0,1] ([kcp.conZ,kat.con [],rat.con []]:Cons Tryz.prog G3) 100 D (fill g 0 (M4 ep )) (m2 S ty E ty' F us lo) [(144,[.s (aO.enc k)]),(148,[.s (aO.enc k)]),(149,[.b true])] .ret MR ([⟨false,ty,.prv (bD S)⟩,⟨false,ty',.pre .u8 E⟩]:List Blk) [0+0+0*130≤us.length,0≤lo,0=0,0+0+0*130≤0,0≤0,((([]:List Value).drop (0+0)).take (0*130))=aA [],([]:List Cert).length=0,0<9223372036854775807,aO.enc (atN [] ep F 0)=aO.enc k,0+0+0*130≤us.length,0≤lo,((us.drop (0+0)).take (0*130))=aA [],([]:List Cert).length=0,0<9223372036854775807,aO.enc (atN [] ep F 0)=aO.enc k,nX Tryz.prog 28 (.u64::List.replicate 64 .u8),sameK k.to=true]:=by delta oN;kernel_rfl
theorem run (V:Keys→Cert→Int) (hV:V=ccV) (S:List B32) (ty:TypeId) (E:List Int) (ty':TypeId) (F:Keys) (ep:Int) (us:List Value) (lo:Nat) (hsg:BOk F.sg) (g:Nat→SV):aK Tryz.prog G3 2 B18 (fill g 0 (M V hV S ty E ty' F ep)) (m V hV S ty E ty' F ep us lo) (aN tys fn (bA (aY.enc true) .none)):=by
 refine Runs.nH ah mixed 3 [0,1,2,3,4,6] (f V hV S ty E ty' F ep us lo g) ⟨Nat.zero_le _,Nat.zero_le _,hsg,rfl,rfl,by omega,fun _ h=>absurd h (Nat.not_lt_zero _),rfl,Nat.zero_le _,Nat.zero_le _,rfl,Nat.zero_le _,Nat.le_refl _,rfl,rfl,by omega,fun _ h=>absurd h (Nat.not_lt_zero _),rfl,trivial⟩ (i2 S ty E ty' F ep _ _) (by kernel_rfl) fun g=> ?_
 rw[body7]
 refine Runs.seq (Runs.seq (Runs.au ah mixed (a V hV S ty E ty' F ep us lo g) trivial (i3 S ty E ty' F ep _ _ 0) rfl fun g=> ?_))
 refine Runs.block ?_
 refine Runs.dS (fun(k:Nat)=>M3 ep (k:Int)) (fun _=>m2 S ty E ty' F us lo) (fun k=>k≤1) (fun k=>1-k) ?_ 0 (by omega) g
 rintro k g hk
 obtain rfl | rfl:k=0∨k=1:=by omega
 ·exact Runs.au ah mixed (t V hV S ty E ty' F ep us lo g) ⟨qB,by rw[mP];rfl,trivial⟩ (i3 S ty E ty' F ep _ _ _) rfl fun g=>⟨1,g,rfl,rfl,by omega,by omega⟩
 refine Runs.au ah mixed (o V hV S ty E ty' F ep us lo g) trivial (i4 S ty E ty' F ep _ _) rfl fun g=> ?_
 show aK _ _ _ _ _ _ _
 exact Runs.bW ah mixed [0,1] (fin S ty E ty' F ep us lo F g) ⟨Nat.zero_le _,Nat.zero_le _,rfl,Nat.zero_le _,Nat.le_refl _,rfl,rfl,by omega,rfl,Nat.zero_le _,Nat.zero_le _,rfl,rfl,by omega,rfl,qB,mP _,trivial⟩ (by kernel_rfl) rfl fun g=>aN.ret (zr g _) rfl
end z
namespace n
def m (V:Keys→Cert→Int) (hV:V=ccV) (S:List B32) (ty:TypeId) (E:List Int) (ty':TypeId) (F:Keys) (ep:Int):List Blk:=[⟨false,ty,.prv (bD S)⟩,⟨false,ty',.pre .u8 E⟩,⟨true,28,.lit F.row⟩]
def m2 (S:List B32) (ty:TypeId) (E:List Int) (ty':TypeId) (F:Keys):List Blk:=[⟨false,ty,.prv (bD S)⟩,⟨false,ty',.pre .u8 E⟩,⟨true,28,.lit F.row⟩,⟨true,28,.lit F.row⟩,⟨true,28,.lit F.row⟩]
def M (V:Keys→Cert→Int) (hV:V=ccV) (S:List B32) (ty:TypeId) (E:List Int) (ty':TypeId) (F:Keys) (ep:Int):List (Option SV):=aJ 150 0 [(4,.o (.a (aB .u64 ep))),(11,.o (.a (.ptr 2 0))),(12,.o (.a (.v (.slice none 0 0))))]
def M2 (ep:Int):List (Option SV):=aJ 150 0 [(4,.o (.a (aB .u64 ep))),(11,.o (.a (.ptr 2 0))),(12,.o (.a (.v (.slice none 0 0)))),(13,.o (.a (.slc 3 0 1 1))),(15,.o (.a (.slc 4 0 1 1)))]
def M3 (ep:Int) (j:Int):List (Option SV):=aJ 150 0 [(4,.o (.a (aB .u64 ep))),(11,.o (.a (.ptr 2 0))),(12,.o (.a (.v (.slice none 0 0)))),(13,.o (.a (.slc 3 0 1 1))),(15,.o (.a (.slc 4 0 1 1))),(126,.o (.a (aB .i64 1))),(127,.o (.a (aB .i64 j)))]
def M4 (ep:Int):List (Option SV):=aJ 150 0 [(4,.o (.a (aB .u64 ep))),(11,.o (.a (.ptr 2 0))),(12,.o (.a (.v (.slice none 0 0))))]
theorem i (V:Keys→Cert→Int) (hV:V=ccV) (S:List B32) (ty:TypeId) (E:List Int) (ty':TypeId) (F:Keys) (ep:Int):oI (M V hV S ty E ty' F ep) (m V hV S ty E ty' F ep):=by delta oI;kernel_rfl
section
variable (S:List B32) (ty:TypeId) (E:List Int) (ty':TypeId) (F:Keys) (ep:Int)
theorem i2:oI (M2 ep) (m2 S ty E ty' F):=by delta oI;kernel_rfl
theorem i3 (j:Int):oI (M3 ep j) (m2 S ty E ty' F):=by delta oI;kernel_rfl
theorem i4:oI (M4 ep) (m2 S ty E ty' F):=by delta oI;kernel_rfl
end
section
variable (V:Keys→Cert→Int)
theorem f (hV:V=ccV) (S:List B32) (ty:TypeId) (E:List Int) (ty':TypeId) (F:Keys) (ep:Int) (g:Nat→SV):oN [0,1,2,3,5] ([rch.conN,kcp.conZ,kch.conZ V hV []]:Cons Tryz.prog G3) 100 (dU 3 B18) (fill g 0 (M V hV S ty E ty' F ep )) (m V hV S ty E ty' F ep) [] .normal (M2 ep) (m2 S ty E ty' F) [0+0+0*130≤0,0≤0,((([]:List Value).drop (0+0)).take (0*130))=aA [],([]:List Cert).length=0,0≤1000000,∀i,i<0→COk (([]:List Cert).getD i zc),0=0]:=by delta oN;kernel_rfl
theorem a (hV:V=ccV) (S:List B32) (ty:TypeId) (E:List Int) (ty':TypeId) (F:Keys) (ep:Int) (g:Nat→SV):oX ([]:Cons Tryz.prog G3) 300 A22 (fill g 0 (M2 ep )) (m2 S ty E ty' F) [] .normal (M3 ep 0) (m2 S ty E ty' F) []:=by delta oX;kernel_rfl
theorem t (hV:V=ccV) (S:List B32) (ty:TypeId) (E:List Int) (ty':TypeId) (F:Keys) (ep:Int) (g:Nat→SV):oX ([]:Cons Tryz.prog G3) 300 L (fill g 0 (M3 ep 0)) (m2 S ty E ty' F) [(138,[.b false])] .normal (M3 ep 1) (m2 S ty E ty' F) [nX Tryz.prog 28 (.u64::List.replicate 64 .u8),(!(sameK F.to))=false]:=by delta oX;kernel_rfl
theorem o (hV:V=ccV) (S:List B32) (ty:TypeId) (E:List Int) (ty':TypeId) (F:Keys) (ep:Int) (g:Nat→SV):oX ([]:Cons Tryz.prog G3) 300 L (fill g 0 (M3 ep 1)) (m2 S ty E ty' F) [] (.exit 1) (M4 ep) (m2 S ty E ty' F) []:=by delta oX;kernel_rfl
end
theorem fin (S:List B32) (ty:TypeId) (E:List Int) (ty':TypeId) (F:Keys) (ep:Int) (k:Keys) (g:Nat→SV):oN [0,1] ([kcp.conZ,kat.con [],rat.conN]:Cons Tryz.prog G3) 100 D (fill g 0 (M4 ep )) (m2 S ty E ty' F) [(144,[.s (aO.enc k)]),(148,[.s (aO.enc k)]),(149,[.b true])] .ret MR ([⟨false,ty,.prv (bD S)⟩,⟨false,ty',.pre .u8 E⟩]:List Blk) [0+0+0*130≤0,0≤0,((([]:List Value).drop (0+0)).take (0*130))=aA [],([]:List Cert).length=0,0<9223372036854775807,aO.enc (atN [] ep F 0)=aO.enc k,aO.enc F=aO.enc k,nX Tryz.prog 28 (.u64::List.replicate 64 .u8),sameK k.to=true]:=by delta oN;kernel_rfl
theorem run (V:Keys→Cert→Int) (hV:V=ccV) (S:List B32) (ty:TypeId) (E:List Int) (ty':TypeId) (F:Keys) (ep:Int) (g:Nat→SV):aK Tryz.prog G3 2 B18 (fill g 0 (M V hV S ty E ty' F ep)) (m V hV S ty E ty' F ep) (aN tys fn (bA (aY.enc true) .none)):=by
 refine Runs.nH ah mixed 3 [0,1,2,3,5] (f V hV S ty E ty' F ep g) ⟨Nat.zero_le _,Nat.le_refl _,rfl,rfl,by omega,fun _ h=>absurd h (Nat.not_lt_zero _),rfl,trivial⟩ (i2 S ty E ty' F ep) (by kernel_rfl) fun g=> ?_
 rw[body7]
 refine Runs.seq (Runs.seq (Runs.au ah mixed (a V hV S ty E ty' F ep g) trivial (i3 S ty E ty' F ep 0) rfl fun g=> ?_))
 refine Runs.block ?_
 refine Runs.dS (fun(k:Nat)=>M3 ep (k:Int)) (fun _=>m2 S ty E ty' F) (fun k=>k≤1) (fun k=>1-k) ?_ 0 (by omega) g
 rintro k g hk
 obtain rfl | rfl:k=0∨k=1:=by omega
 ·exact Runs.au ah mixed (t V hV S ty E ty' F ep g) ⟨qB,by rw[mP];rfl,trivial⟩ (i3 S ty E ty' F ep _) rfl fun g=>⟨1,g,rfl,rfl,by omega,by omega⟩
 refine Runs.au ah mixed (o V hV S ty E ty' F ep g) trivial (i4 S ty E ty' F ep) rfl fun g=> ?_
 show aK _ _ _ _ _ _ _
 exact Runs.bW ah mixed [0,1] (fin S ty E ty' F ep F g) ⟨Nat.zero_le _,Nat.le_refl _,rfl,rfl,by omega,rfl,rfl,qB,mP _,trivial⟩ (by kernel_rfl) rfl fun g=>aN.ret (zr g _) rfl
end n
end lkl
end Go.Proofs.YthlmepolmemejaaGreatDoor

/- Keys, certificates and roots as rows of numbers; packages keyring and beaconref14: seeds, public keys: walks, contracts. -/
import Derived.Test.YthlmepolmemejaaGreatDoorLFo
import Derived.Test.YthlmepolmemejaaGreatDoorLMY
import Derived.Test.YthlmepolmemejaaGreatDoorLMJ
import Derived.Test.YthlmepolmemejaaGreatDoorLME
import Derived.Test.YthlmepolmemejaaGreatDoorLMA
import Derived.Test.YthlmepolmemejaaGreatDoorLMV
set_option linter.unusedSimpArgs false
set_option linter.unusedVariables false
namespace Go.Proofs.YthlmepolmemejaaGreatDoor
open Go Go.Eng Go.RowKit
set_option maxRecDepth 100000
def G3:Glob:=fun g=>match g with
 | 1=>some (orderL.map (aB .u64))
 | 0=>some (mY.map (aB .u64))
 | 2=>some (S3.kH.map (aB .u32))
 | _=>none
theorem ng:∀g cs,G2 g=some cs→G3 g=some cs:=by
 intro g cs h
 unfold G2 at h
 split at h<;>cases h<;>rfl
theorem s3_g3:∀g cs,S3.Gs g=some cs→G3 g=some cs:=by
 intro g cs h
 unfold S3.Gs at h
 split at h<;>cases h
 rfl
theorem gx_g3:∀g cs,GX g=some cs→G3 g=some cs:=by
 intro g cs h
 cases h
structure Keys where
 gen:Int
 sg:B32
 vr:B32
structure Cert where
 k:Keys
 ep:Int
 sig:B64
structure Root where
 ep:Int
 kind:Int
 gen:Int
 prev:B32
 hash:B32
 link:B32
 sig:B64
def Keys.row (k:Keys):List Atom:=aB .u64 k.gen::(ak.row k.sg++ak.row k.vr)
def Cert.row (c:Cert):List Atom:=c.k.row++(aB .u64 c.ep::bU.row c.sig)
def Root.row (r:Root):List Atom:=aB .u64 r.ep::aB .u64 r.kind::aB .u64 r.gen::(ak.row r.prev++(ak.row r.hash++(ak.row r.link++bU.row r.sig)))
theorem Keys.ids (k:Keys):bB k.row=[]:=rfl
theorem Cert.ids (k:Cert):bB k.row=[]:=rfl
theorem Root.ids (k:Root):bB k.row=[]:=rfl
theorem vS {cs:List Atom} {b:B32} (h:ak.dec (.o (.g cs))=some b):ak.row b=cs:=by
 have:=ak.ok _ _ h
 unfold Cod.row
 rw[this]
theorem row_of64 {cs:List Atom} {b:B64} (h:bU.dec (.o (.g cs))=some b):bU.row b=cs:=by
 have:=bU.ok _ _ h
 unfold Cod.row
 rw[this]
def Keys.of:List Atom→Option Keys
 | .v (.int .u64 g)::r=>match ak.dec (.o (.g (r.take 32))),ak.dec (.o (.g (r.drop 32))) with
  | some a,some b=>some ⟨g,a,b⟩
  | _,_=>none
 | _=>none
theorem Keys.of_ok {cs:List Atom} {k:Keys} (h:Keys.of cs=some k):k.row=cs:=by
 unfold Keys.of at h
 split at h<;>try cases h
 split at h<;>cases h
 rename_i h1 h2
 unfold Keys.row
 rw[vS h1,vS h2,List.take_append_drop]
def Cert.of (cs:List Atom):Option Cert:=match Keys.of (cs.take 65),cs.drop 65 with
 | some k,.v (.int .u64 e)::r=>match bU.dec (.o (.g r)) with
  | some s=>some ⟨k,e,s⟩
  | none=>none
 | _,_=>none
theorem Cert.of_ok {cs:List Atom} {k:Cert} (h:Cert.of cs=some k):k.row=cs:=by
 unfold Cert.of at h
 split at h<;>try cases h
 rename_i h1 h2
 split at h<;>cases h
 rename_i h3
 unfold Cert.row
 rw[Keys.of_ok h1,row_of64 h3,←h2,List.take_append_drop]
def Root.of:List Atom→Option Root
 | .v (.int .u64 e):: .v (.int .u64 k):: .v (.int .u64 g)::r=>match ak.dec (.o (.g (r.take 32))),ak.dec (.o (.g ((r.drop 32).take 32))),ak.dec (.o (.g (((r.drop 32).drop 32).take 32))),bU.dec (.o (.g (((r.drop 32).drop 32).drop 32))) with
  | some a,some b,some c,some s=>some ⟨e,k,g,a,b,c,s⟩
  | _,_,_,_=>none
 | _=>none
theorem Root.of_ok {cs:List Atom} {k:Root} (h:Root.of cs=some k):k.row=cs:=by
 unfold Root.of at h
 split at h<;>try cases h
 split at h<;>cases h
 rename_i h1 h2 h3 h4
 unfold Root.row
 rw[vS h1,vS h2,vS h3,row_of64 h4,List.take_append_drop,List.take_append_drop,List.take_append_drop]
def cRec {α:Type} (row:α→List Atom) (of:List Atom→Option α) (ok:∀{cs k},of cs=some k→row k=cs) (ids:∀k,bB (row k)=[]):Cod α where
 enc k:= .o (.g (row k))
 dec
  | .o (.g cs)=>of cs
  | _=>none
 ok x a h:=by
  split at h
  ·rw[ok h]
  ·cases h
 ids k:=ids k
def aO:Cod Keys:=cRec Keys.row Keys.of Keys.of_ok Keys.ids
def bK:Cod Cert:=cRec Cert.row Cert.of Cert.of_ok Cert.ids
noncomputable def ksV (w:List Int) (b:B32):B32:=S3.kZ (S3.cK S3.S0 (w++b.to))
theorem ks_ref (w:List Int) (b:B32) (h:w.length≤100):ksV w b=S3.refB (w++b.to):=S3.ref_eq _ (by rw[List.length_append];have:b.to.length=32:=rfl;omega)
def wSign:List Int:=[115,105,103,110]
def wVrf:List Int:=[118,114,102]
noncomputable def kV (b:B32):B32:=ksV wSign b
noncomputable def nJ (b:B32):B32:=ksV wVrf b
theorem b32_mem {b:B32} (hb:BOk b):∀y∈b.to,0≤y∧y<256:=by
 intro y hy
 obtain⟨i,hi,rfl⟩:=List.mem_iff_getElem.1 hy
 have hi:i<32:=hi
 match i,hi with
 | 0,_=>exact hb 0
 | 1,_=>exact hb 1
 | 2,_=>exact hb 2
 | 3,_=>exact hb 3
 | 4,_=>exact hb 4
 | 5,_=>exact hb 5
 | 6,_=>exact hb 6
 | 7,_=>exact hb 7
 | 8,_=>exact hb 8
 | 9,_=>exact hb 9
 | 10,_=>exact hb 10
 | 11,_=>exact hb 11
 | 12,_=>exact hb 12
 | 13,_=>exact hb 13
 | 14,_=>exact hb 14
 | 15,_=>exact hb 15
 | 16,_=>exact hb 16
 | 17,_=>exact hb 17
 | 18,_=>exact hb 18
 | 19,_=>exact hb 19
 | 20,_=>exact hb 20
 | 21,_=>exact hb 21
 | 22,_=>exact hb 22
 | 23,_=>exact hb 23
 | 24,_=>exact hb 24
 | 25,_=>exact hb 25
 | 26,_=>exact hb 26
 | 27,_=>exact hb 27
 | 28,_=>exact hb 28
 | 29,_=>exact hb 29
 | 30,_=>exact hb 30
 | 31,_=>exact hb 31
 | j+32,h=>exact absurd h (by omega)
theorem cat_byt {w:List Int} {b:B32} (hw:∀y∈w,0≤y∧y<256) (hb:BOk b):∀y∈w++b.to,S3.Byt y:=by
 intro y hy
 rcases List.mem_append.1 hy with h | h
 ·exact hw y h
 ·exact b32_mem hb y h
namespace drv
noncomputable abbrev fn:=Tryz.f33
noncomputable def body:Code:=bZ fn
noncomputable def R1:Code:=cs1 (bY 1 body)
noncomputable def i1:Nat:=match R1 with | .region i _ _=>i | _=>0
noncomputable def T2:Code:=bY 2 body
theorem fV:bY 1 body= .seq (.region i1 (opsOf R1) false) T2:=by kernel_rfl
theorem nil1:((opsOf R1).toList.drop 2).drop 4=[]:=by kernel_rfl
noncomputable def Γ:Cons Tryz.prog G3:=[S3.s256_con.lift s3_g3]
namespace sg
def w:ByteArray:=⟨#[115,105,103,110]⟩
def MA:List (Option SV):=aJ 10 0 [(0,.o (.a (.v (.string w)))),(3,.o (.a (.ptr 0 0))),(4,.o (.a (.ptr 1 0)))]
def MB:List (Option SV):=aJ 10 0 [(3,.o (.a (.ptr 0 0))),(4,.o (.a (.ptr 1 0))),(6,.o (.a (.slg 2 4)))]
def MZ:List (Option SV):=aJ 10 0 [(4,.o (.a (.ptr 1 0)))]
section
variable (b:B32)
def memA:List Blk:=[⟨true,26,.lit (ak.row b)⟩,⟨true,26,.lit (ak.row aM)⟩]
def memB (lo:Nat) (hi:Option Nat):List Blk:=memA b++[⟨true,5,.gro .u8 [115,105,103,110] lo hi⟩]
def memZ (d:B32):List Blk:=[⟨true,26,.lit (ak.row b)⟩,⟨true,26,.lit (ak.row d)⟩]
theorem idsA:oI (MA) (memA b):=by delta oI;kernel_rfl
theorem idsB (lo:Nat) (hi:Option Nat):oI (MB) (memB b lo hi):=by delta oI;kernel_rfl
theorem idsZ (d:B32):oI (MZ) (memZ b d):=by delta oI;kernel_rfl
theorem s0:oX Γ 100 (dU 1 body) (aH fn [.o (.a (.v (.string w))),ak.enc b]) [] [] .normal (MA) (memA b) []:=by delta oX;kernel_rfl
theorem e1 (g:Nat→SV):oF (memB b 4 none).length (MB) (dW Γ tys (opsOf R1).toList ((opsOf R1).toList.take 2) ⟨fill g 0 (MA),memA b,[]⟩)=some (live (MB),(MB).length,memB b 4 none,[]):=by kernel_rfl
theorem in1 (d:B32) (lo:Nat) (g:Nat→SV):oT Γ R1 2 4 (fill g 0 (MB)) (memB b lo none) [(9,[.s (ak.enc d)])] (MZ) (memZ b d) [32≤32,4=4,4+32≤lo,0+(4+32)≤([115,105,103,110]++b.to).length,4+32≤lo,ak.enc (S3.kZ (S3.cK S3.S0 ((([115,105,103,110]++b.to).drop 0).take (4+32))))=ak.enc d]:=by delta oT;kernel_rfl
theorem gr1 (d:B32) (lo:Nat) (g:Nat→SV):oT Γ R1 2 4 (fill g 0 (MB)) (memB b lo (some (4+32))) [(9,[.s (ak.enc d)])] (MZ) (memZ b d) [32≤32,4=4,4+32≤4+32,Room Tryz.prog 5 (4+32),0+(4+32)≤([115,105,103,110]++b.to).length,4+32≤4+32,ak.enc (S3.kZ (S3.cK S3.S0 ((([115,105,103,110]++b.to).drop 0).take (4+32))))=ak.enc d]:=by delta oT;kernel_rfl
theorem z (d:B32) (g:Nat→SV):exec Γ tys 100 T2 ⟨fill g 0 (MZ),memZ b d,[]⟩=some (.ret,⟨fill g 0 (MZ),memZ b d,[]⟩,[]):=by kernel_rfl
theorem zr (d:B32) (g:Nat→SV):eRes tys (fill g 0 (MZ)) (fun k=>(memZ b d)[k]?) fn.results.toList=some [.g (ak.row d)]:=by kernel_rfl
theorem run:aK Tryz.prog G3 0 body (aH fn [.o (.a (.v (.string w))),ak.enc b]) [] (aN tys fn (bA (ak.enc (ksV wSign b)) .none)):=by
 have hr:([115,105,103,110]++b.to).length=36:=rfl
 have hh:ak.enc (S3.kZ (S3.cK S3.S0 ((([115,105,103,110]++b.to).drop 0).take (4+32))))=ak.enc (ksV wSign b):=by
  rw[dt0 _ _ hr]
  rfl
 refine Runs.bS ah mixed 1 (s0 b) trivial (idsA b) rfl fun g=> ?_
 rw[fV]
 refine Runs.seq (Runs.region (bg.au ah 2 (e1 b g) trivial (idsB b _ _) rfl fun g=> ?_))
 refine bg.room 2 (4+32) (own:=true) (ty:=5) (kd:= .u8) (xs:=[115,105,103,110]) (lo:=4) rfl ?_ ?_
 ·refine bg.au ah 4 (in1 b (ksV wSign b) _ g) ⟨by omega,rfl,by omega,by rw[hr];omega,by omega,hh,trivial⟩ (idsZ b _) rfl fun g=> ?_
  rw[nil1]
  exact bg.nil (Runs.aQ ah mixed (z b _ g) trivial (aN.ret (zr b _ g) rfl))
 ·refine bg.au ah 4 (gr1 b (ksV wSign b) _ g) ⟨by omega,rfl,by omega,qI _ (by omega),by rw[hr];omega,by omega,hh,trivial⟩ (idsZ b _) rfl fun g=> ?_
  rw[nil1]
  exact bg.nil (Runs.aQ ah mixed (z b _ g) trivial (aN.ret (zr b _ g) rfl))
end
end sg
namespace vr
def w:ByteArray:=⟨#[118,114,102]⟩
def MA:List (Option SV):=aJ 10 0 [(0,.o (.a (.v (.string w)))),(3,.o (.a (.ptr 0 0))),(4,.o (.a (.ptr 1 0)))]
def MB:List (Option SV):=aJ 10 0 [(3,.o (.a (.ptr 0 0))),(4,.o (.a (.ptr 1 0))),(6,.o (.a (.slg 2 3)))]
def MZ:List (Option SV):=aJ 10 0 [(4,.o (.a (.ptr 1 0)))]
section
variable (b:B32)
def memA:List Blk:=[⟨true,26,.lit (ak.row b)⟩,⟨true,26,.lit (ak.row aM)⟩]
def memB (lo:Nat) (hi:Option Nat):List Blk:=memA b++[⟨true,5,.gro .u8 [118,114,102] lo hi⟩]
def memZ (d:B32):List Blk:=[⟨true,26,.lit (ak.row b)⟩,⟨true,26,.lit (ak.row d)⟩]
theorem idsA:oI (MA) (memA b):=by delta oI;kernel_rfl
theorem idsB (lo:Nat) (hi:Option Nat):oI (MB) (memB b lo hi):=by delta oI;kernel_rfl
theorem idsZ (d:B32):oI (MZ) (memZ b d):=by delta oI;kernel_rfl
theorem s0:oX Γ 100 (dU 1 body) (aH fn [.o (.a (.v (.string w))),ak.enc b]) [] [] .normal (MA) (memA b) []:=by delta oX;kernel_rfl
theorem e1 (g:Nat→SV):oF (memB b 3 none).length (MB) (dW Γ tys (opsOf R1).toList ((opsOf R1).toList.take 2) ⟨fill g 0 (MA),memA b,[]⟩)=some (live (MB),(MB).length,memB b 3 none,[]):=by kernel_rfl
theorem in1 (d:B32) (lo:Nat) (g:Nat→SV):oT Γ R1 2 4 (fill g 0 (MB)) (memB b lo none) [(9,[.s (ak.enc d)])] (MZ) (memZ b d) [32≤32,3=3,3+32≤lo,0+(3+32)≤([118,114,102]++b.to).length,3+32≤lo,ak.enc (S3.kZ (S3.cK S3.S0 ((([118,114,102]++b.to).drop 0).take (3+32))))=ak.enc d]:=by delta oT;kernel_rfl
theorem gr1 (d:B32) (lo:Nat) (g:Nat→SV):oT Γ R1 2 4 (fill g 0 (MB)) (memB b lo (some (3+32))) [(9,[.s (ak.enc d)])] (MZ) (memZ b d) [32≤32,3=3,3+32≤3+32,Room Tryz.prog 5 (3+32),0+(3+32)≤([118,114,102]++b.to).length,3+32≤3+32,ak.enc (S3.kZ (S3.cK S3.S0 ((([118,114,102]++b.to).drop 0).take (3+32))))=ak.enc d]:=by delta oT;kernel_rfl
theorem z (d:B32) (g:Nat→SV):exec Γ tys 100 T2 ⟨fill g 0 (MZ),memZ b d,[]⟩=some (.ret,⟨fill g 0 (MZ),memZ b d,[]⟩,[]):=by kernel_rfl
theorem zr (d:B32) (g:Nat→SV):eRes tys (fill g 0 (MZ)) (fun k=>(memZ b d)[k]?) fn.results.toList=some [.g (ak.row d)]:=by kernel_rfl
theorem run:aK Tryz.prog G3 0 body (aH fn [.o (.a (.v (.string w))),ak.enc b]) [] (aN tys fn (bA (ak.enc (ksV wVrf b)) .none)):=by
 have hr:([118,114,102]++b.to).length=35:=rfl
 have hh:ak.enc (S3.kZ (S3.cK S3.S0 ((([118,114,102]++b.to).drop 0).take (3+32))))=ak.enc (ksV wVrf b):=by
  rw[dt0 _ _ hr]
  rfl
 refine Runs.bS ah mixed 1 (s0 b) trivial (idsA b) rfl fun g=> ?_
 rw[fV]
 refine Runs.seq (Runs.region (bg.au ah 2 (e1 b g) trivial (idsB b _ _) rfl fun g=> ?_))
 refine bg.room 2 (3+32) (own:=true) (ty:=5) (kd:= .u8) (xs:=[118,114,102]) (lo:=3) rfl ?_ ?_
 ·refine bg.au ah 4 (in1 b (ksV wVrf b) _ g) ⟨by omega,rfl,by omega,by rw[hr];omega,by omega,hh,trivial⟩ (idsZ b _) rfl fun g=> ?_
  rw[nil1]
  exact bg.nil (Runs.aQ ah mixed (z b _ g) trivial (aN.ret (zr b _ g) rfl))
 ·refine bg.au ah 4 (gr1 b (ksV wVrf b) _ g) ⟨by omega,rfl,by omega,qI _ (by omega),by rw[hr];omega,by omega,hh,trivial⟩ (idsZ b _) rfl fun g=> ?_
  rw[nil1]
  exact bg.nil (Runs.aQ ah mixed (z b _ g) trivial (aN.ret (zr b _ g) rfl))
end
end vr
def spec (K:List Int→B32→B32):List aV→Option (SV × dh × Cst)
 | [.val (.o (.a (.v (.string s)))),.val v]=>match ak.dec v with
  | some b=>if s=sg.w then some (ak.enc (K wSign b),.none,[]) else if s=vr.w then some (ak.enc (K wVrf b),.none,[]) else none
  | none=>none
 | _=>none
noncomputable def con (K:List Int→B32→B32) (hK:K=ksV):Con Tryz.prog G3:=Con.parts ah 33 fn Tryz.func33 (by kernel_rfl) (c:=body) (by kernel_rfl) [.val,.val] (spec K)
 (fun ps r e p h hp=>by
  unfold spec at h
  split at h
  ·split at h
   ·split at h
    ·cases h
     exact⟨ak.ids _,fun b hb=>by cases hb⟩
    ·split at h<;>cases h
     exact⟨ak.ids _,fun b hb=>by cases hb⟩
   ·cases h
  ·cases h)
 (fun ps r e p cap h hp hi=>by
  subst hK
  unfold spec at h
  split at h
  ·split at h
   ·rename_i b hb
    have:=ak.ok _ _ hb
    subst this
    split at h
    ·rename_i hs
     cases h
     subst hs
     exact sg.run b
    ·split at h<;>cases h
     rename_i hs
     subst hs
     exact vr.run b
   ·cases h
  ·cases h)
end drv
theorem kseed_ex (K:List Int→B32→B32) (hK:K=ksV) (b d:B32):eP ([drv.con K hK]:Cons Tryz.prog G3) tys Tryz.f20 100 [ak.enc b] [(4,[.s (ak.enc d)])]=some (ak.enc d,[ak.enc (K wSign b)=ak.enc d]):=by kernel_rfl
theorem kseed_fn (b:B32):ay Tryz.prog G3 20 [ak.enc b] (ak.enc (kV b)):=ay.aD ah mixed Tryz.func20 (kseed_ex ksV rfl b (kV b)) ⟨rfl,trivial⟩ (ak.ids _) rfl
noncomputable def kseed_con:Con Tryz.prog G3:=fQ 20 Tryz.f20 Tryz.func20 (by kernel_rfl) (by kernel_rfl) ak (fun b=>ak.enc (kV b)) (fun _=>[]) (fun _=>ak.ids _) (fun b _=>kseed_fn b)
theorem rkseed_ex (b d:B32):eP ([join_con.lift ng,S3.r256_con.lift s3_g3]:Cons Tryz.prog G3) tys Tryz.f23 100 [ak.enc b] [(8,[.s (ak.enc d)])]=some (ak.enc d,[4≤4,32≤32,0<([([115,105,103,110].drop 0).take 4,(b.to.drop 0).take 32].headD []).length,(aZ [([115,105,103,110].drop 0).take 4,(b.to.drop 0).take 32]).length≤140737488355328,0+(aZ [([115,105,103,110].drop 0).take 4,(b.to.drop 0).take 32]).length≤(aZ [([115,105,103,110].drop 0).take 4,(b.to.drop 0).take 32]).length,(aZ [([115,105,103,110].drop 0).take 4,(b.to.drop 0).take 32]).length≤(aZ [([115,105,103,110].drop 0).take 4,(b.to.drop 0).take 32]).length,(aZ [([115,105,103,110].drop 0).take 4,(b.to.drop 0).take 32]).length≤140737488354000,∀y∈((aZ [([115,105,103,110].drop 0).take 4,(b.to.drop 0).take 32]).drop 0).take (aZ [([115,105,103,110].drop 0).take 4,(b.to.drop 0).take 32]).length,Byt y,ak.enc (S3.refB (((aZ [([115,105,103,110].drop 0).take 4,(b.to.drop 0).take 32]).drop 0).take (aZ [([115,105,103,110].drop 0).take 4,(b.to.drop 0).take 32]).length))=ak.enc d]):=by kernel_rfl
theorem rkseed_fn (b:B32) (hb:BOk b):ay Tryz.prog G3 23 [ak.enc b] (ak.enc (kV b)):=by
 have e:aZ [([115,105,103,110].drop 0).take 4,(b.to.drop 0).take 32]=[115,105,103,110]++b.to:=by
  rw[dt0 b.to 32 rfl]
  simp only[aZ,List.append_nil]
  rfl
 have hl:(aZ [([115,105,103,110].drop 0).take 4,(b.to.drop 0).take 32]).length=36:=by rw[e];rfl
 have hx:((aZ [([115,105,103,110].drop 0).take 4,(b.to.drop 0).take 32]).drop 0).take (aZ [([115,105,103,110].drop 0).take 4,(b.to.drop 0).take 32]).length=[115,105,103,110]++b.to:=by rw[dt0 _ _ rfl,e]
 exact ay.aD ah mixed Tryz.func23 (rkseed_ex b (kV b)) ⟨by omega,by omega,by show 0<4;omega,by omega,by omega,by omega,by omega,by rw[hx];exact cat_byt (by decide) hb,by rw[hx];exact congrArg ak.enc (ks_ref _ b (by decide)).symm,trivial⟩ (ak.ids _) rfl
noncomputable def rkseed_con:Con Tryz.prog G3:=fQ 23 Tryz.f23 Tryz.func23 (by kernel_rfl) (by kernel_rfl) ak (fun b=>ak.enc (kV b)) (fun b=>[BOk b]) (fun _=>ak.ids _) (fun b h=>rkseed_fn b h.1)
theorem vseed_ex (K:List Int→B32→B32) (hK:K=ksV) (b d:B32):eP ([drv.con K hK]:Cons Tryz.prog G3) tys Tryz.f21 100 [ak.enc b] [(4,[.s (ak.enc d)])]=some (ak.enc d,[ak.enc (K wVrf b)=ak.enc d]):=by kernel_rfl
theorem vseed_fn (b:B32):ay Tryz.prog G3 21 [ak.enc b] (ak.enc (nJ b)):=ay.aD ah mixed Tryz.func21 (vseed_ex ksV rfl b (nJ b)) ⟨rfl,trivial⟩ (ak.ids _) rfl
noncomputable def vseed_con:Con Tryz.prog G3:=fQ 21 Tryz.f21 Tryz.func21 (by kernel_rfl) (by kernel_rfl) ak (fun b=>ak.enc (nJ b)) (fun _=>[]) (fun _=>ak.ids _) (fun b _=>vseed_fn b)
theorem rvseed_ex (b d:B32):eP ([join_con.lift ng,S3.r256_con.lift s3_g3]:Cons Tryz.prog G3) tys Tryz.f24 100 [ak.enc b] [(8,[.s (ak.enc d)])]=some (ak.enc d,[3≤3,32≤32,0<([([118,114,102].drop 0).take 3,(b.to.drop 0).take 32].headD []).length,(aZ [([118,114,102].drop 0).take 3,(b.to.drop 0).take 32]).length≤140737488355328,0+(aZ [([118,114,102].drop 0).take 3,(b.to.drop 0).take 32]).length≤(aZ [([118,114,102].drop 0).take 3,(b.to.drop 0).take 32]).length,(aZ [([118,114,102].drop 0).take 3,(b.to.drop 0).take 32]).length≤(aZ [([118,114,102].drop 0).take 3,(b.to.drop 0).take 32]).length,(aZ [([118,114,102].drop 0).take 3,(b.to.drop 0).take 32]).length≤140737488354000,∀y∈((aZ [([118,114,102].drop 0).take 3,(b.to.drop 0).take 32]).drop 0).take (aZ [([118,114,102].drop 0).take 3,(b.to.drop 0).take 32]).length,Byt y,ak.enc (S3.refB (((aZ [([118,114,102].drop 0).take 3,(b.to.drop 0).take 32]).drop 0).take (aZ [([118,114,102].drop 0).take 3,(b.to.drop 0).take 32]).length))=ak.enc d]):=by kernel_rfl
theorem rvseed_fn (b:B32) (hb:BOk b):ay Tryz.prog G3 24 [ak.enc b] (ak.enc (nJ b)):=by
 have e:aZ [([118,114,102].drop 0).take 3,(b.to.drop 0).take 32]=[118,114,102]++b.to:=by
  rw[dt0 b.to 32 rfl]
  simp only[aZ,List.append_nil]
  rfl
 have hl:(aZ [([118,114,102].drop 0).take 3,(b.to.drop 0).take 32]).length=35:=by rw[e];rfl
 have hx:((aZ [([118,114,102].drop 0).take 3,(b.to.drop 0).take 32]).drop 0).take (aZ [([118,114,102].drop 0).take 3,(b.to.drop 0).take 32]).length=[118,114,102]++b.to:=by rw[dt0 _ _ rfl,e]
 exact ay.aD ah mixed Tryz.func24 (rvseed_ex b (nJ b)) ⟨by omega,by omega,by show 0<3;omega,by omega,by omega,by omega,by omega,by rw[hx];exact cat_byt (by decide) hb,by rw[hx];exact congrArg ak.enc (ks_ref _ b (by decide)).symm,trivial⟩ (ak.ids _) rfl
noncomputable def rvseed_con:Con Tryz.prog G3:=fQ 24 Tryz.f24 Tryz.func24 (by kernel_rfl) (by kernel_rfl) ak (fun b=>ak.enc (nJ b)) (fun b=>[BOk b]) (fun _=>ak.ids _) (fun b h=>rvseed_fn b h.1)
end Go.Proofs.YthlmepolmemejaaGreatDoor

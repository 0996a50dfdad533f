/- Nodes and leaves as rows; packages tree, beaconref11, beaconref07: what is done with bits: walks, contracts. -/
import Derived.Test.YtdccehmekkcheaaDoorCTrM
import Derived.Test.YtdccehmekkcheaaDoorCMX
set_option linter.unusedSimpArgs false
set_option linter.unusedVariables false
namespace Go.Proofs.YtdccehmekkcheaaDoor
open Go Go.Eng Go.RowKit
set_option maxRecDepth 100000
abbrev GT:Glob:=S3.Gs
abbrev fV {α:Type}:= @S3.fV α
abbrev fU {α:Type}:= @S3.fU α
theorem nW {cs:List Atom} {b:B32} (h:ay.dec (.o (.g cs))=some b):ay.row b=cs:=by
 have:=ay.ok _ _ h
 unfold Cod.row
 rw[this]
def cRec {α:Type} (row:α→List Atom) (of:List Atom→Option α) (ok:∀{cs k},of cs=some k→row k=cs) (ids:∀k,bL (row k)=[]):Cod α where
 enc k:= .o (.g (row k))
 dec
  | .o (.g cs)=>of cs
  | _=>none
 ok x a h:=by
  split at h
  ·rw[ok h]
  ·cases h
 ids k:=ids k
structure Lf where
 lab:B32
 val:B32
def Nd.row (n:Nd):List Atom:=aG .i64 n.len::(ay.row n.pre++ay.row n.hash)
def Lf.row (n:Lf):List Atom:=ay.row n.lab++ay.row n.val
theorem Nd.ids (k:Nd):bL k.row=[]:=rfl
theorem Lf.ids (k:Lf):bL k.row=[]:=rfl
def Nd.of:List Atom→Option Nd
 | .v (.int .i64 g)::r=>match ay.dec (.o (.g (r.take 32))),ay.dec (.o (.g (r.drop 32))) with
  | some a,some b=>some ⟨g,a,b⟩
  | _,_=>none
 | _=>none
theorem Nd.of_ok {cs:List Atom} {k:Nd} (h:Nd.of cs=some k):k.row=cs:=by
 unfold Nd.of at h
 split at h<;>try cases h
 split at h<;>cases h
 rename_i h1 h2
 unfold Nd.row
 rw[nW h1,nW h2,List.take_append_drop]
def Lf.of (r:List Atom):Option Lf:=match ay.dec (.o (.g (r.take 32))),ay.dec (.o (.g (r.drop 32))) with
  | some a,some b=>some ⟨a,b⟩
  | _,_=>none
theorem Lf.of_ok {cs:List Atom} {k:Lf} (h:Lf.of cs=some k):k.row=cs:=by
 unfold Lf.of at h
 split at h<;>cases h
 rename_i h1 h2
 unfold Lf.row
 rw[nW h1,nW h2,List.take_append_drop]
def cNd:Cod Nd:=cRec Nd.row Nd.of Nd.of_ok Nd.ids
def cLf:Cod Lf:=cRec Lf.row Lf.of Lf.of_ok Lf.ids
def kE (x:Nat):Nat:=if x=0 then 0 else if x<2 then 1 else if x<4 then 2 else if x<8 then 3 else if x<16 then 4 else if x<32 then 5 else if x<64 then 6 else if x<128 then 7 else 8
theorem tq (x:Nat):kE x≤8:=by
 unfold kE
 repeat' split
 all_goals omega
namespace l8
noncomputable abbrev fn:=Tryd.f94
def opS:List Oper→Option ByteArray
 | []=>none
 | o::r=>match o.op with
  | .index _ (.const (.string s)) _=>some s
  | _=>opS r
noncomputable def S:ByteArray:=match d9 fn with
 | .seq _ (.seq (.region _ ops _) _)=>(opS ops.toList).getD .empty
 | _=> .empty
theorem tab:fV (fun x=>(kI S).getD x 0) 256=fU (fun x=>((kE x:Nat):Int)) 256:=by kernel_rfl
theorem size:S.size=256:=by kernel_rfl
theorem walk (x r:Int) (h0:0≤x) (h1:x<S.size) (hr:(kI S).getD x.toNat 0=r) (hw:IntKind.i64.wrap r=r):dI Tryd.prog GT 94 [.o (.a (aG .u8 x))] ((aQ .i64).enc r):=
 dI.dO (Γ:=[]) aj mixed Tryd.func94 (n:=100) (orc:=[(4,[.n r]),(5,[.n r])]) (cs:=[0≤x,x<S.size,(kI S).getD x.toNat 0=r,IntKind.i64.wrap r=r]) (by kernel_rfl) ⟨h0,h1,hr,hw,trivial⟩ rfl rfl
noncomputable def con:Con Tryd.prog GT:=con1 94 fn Tryd.func94 (by kernel_rfl) (by kernel_rfl) (aQ .u8) (fun x=>(aQ .i64).enc (kE x.toNat:Nat)) (fun x=>[Byte x]) (fun _=>rfl) fun x h=>by
 obtain⟨⟨h0,h1⟩,_⟩:=h
 have hl:kE x.toNat≤8:=tq _
 exact walk x _ h0 (by rw[size];exact h1) (S3.dK tab x.toNat (by omega)) (by rw[IntKind.wrap_i64];omega)
end l8
namespace lz
noncomputable abbrev fn:=Tryd.f81
theorem walk (x r s:Int) (hx:Byte x) (hr:(aQ .i64).enc (kE x.toNat:Nat)=(aQ .i64).enc r) (hw:IntKind.i64.wrap (8-r)=s):dI Tryd.prog GT 81 [.o (.a (aG .u8 x))] ((aQ .i64).enc s):=
 dI.dO (Γ:=[l8.con]) aj mixed Tryd.func81 (n:=100) (orc:=[(4,[.s ((aQ .i64).enc r)]),(5,[.n s])]) (cs:=[Byte x,(aQ .i64).enc (kE x.toNat:Nat)=(aQ .i64).enc r,IntKind.i64.wrap (8-r)=s]) (by kernel_rfl) ⟨hx,hr,hw,trivial⟩ rfl rfl
noncomputable def con:Con Tryd.prog GT:=con1 81 fn Tryd.func81 (by kernel_rfl) (by kernel_rfl) (aQ .u8) (fun x=>(aQ .i64).enc ((8-kE x.toNat:Nat):Int)) (fun x=>[Byte x]) (fun _=>rfl) fun x h=>by
 have hl:kE x.toNat≤8:=tq _
 exact walk x _ _ h.1 rfl (by rw[IntKind.wrap_i64];omega)
end lz
theorem u8w (x:Int):IntKind.u8.wrap x=x%256:=by rw[IntKind.wrap_u8]
namespace tbit
noncomputable abbrev fn:=Tryd.f93
def val (b:B32) (i:Nat):Bool:= !(bits .and .u8 (IntKind.u8.wrap (b.at (i/8)*2^(i%8))) 128==0)
theorem tab (b:B32):fV (fun i=>gK ([]:Cons Tryd.prog GT) tys fn 100 [ay.enc b,.o (.a (aG .i64 (i:Int)))] [(13,[.b (val b i)])]) 256=fU (fun i=>some (aI.enc (val b i),[(!(bits .and .u8 (IntKind.u8.wrap (b.at (i/8)*2^(i%8))) 128==0))=val b i])) 256:=by kernel_rfl
end tbit
namespace rbit
noncomputable abbrev fn:=Tryd.f61
def val (b:B32) (i:Nat):Int:=bits .and .u8 ((b.at (i/8)).fdiv (2^(7-i%8))) 1
theorem tab (b:B32):fV (fun i=>gK ([]:Cons Tryd.prog GT) tys fn 100 [ay.enc b,.o (.a (aG .i64 (i:Int)))] [(14,[.n (val b i)])]) 256=fU (fun i=>some ((aQ .u8).enc (val b i),[bits .and .u8 ((b.at (i/8)).fdiv (2^(7-i%8))) 1=val b i])) 256:=by kernel_rfl
end rbit
theorem bits_tab {α:Type} {f g:Int→α} {n:Nat} (h:fV (fun x=>f (x:Int)) n=fU (fun x=>g (x:Int)) n) {x:Int} (h0:0≤x) (h1:x<n):f x=g x:=by
 have e:f (x.toNat:Int)=g (x.toNat:Int):=S3.dK h x.toNat (by omega)
 rwa [Int.toNat_of_nonneg h0] at e
theorem and128:fV (fun x=>(!(bits .and .u8 (x:Int) 128==0))) 256=fU (fun x=>bt (x:Int) 7) 256:=by kernel_rfl
theorem and1:fV (fun x=>bits .and .u8 (x:Int) 1) 256=fU (fun x=>(x:Int)%2) 256:=by kernel_rfl
theorem shl_bit {x:Int} (hx:Byte x) {r:Nat} (hr:r<8):Byte (IntKind.u8.wrap (x*2^r))∧bt (IntKind.u8.wrap (x*2^r)) 7=bt x (7-r):=by
 obtain⟨x0,x1⟩:=hx
 rw[u8w]
 refine⟨⟨by omega,by omega⟩,?_⟩
 unfold bt
 rw[Bool.eq_iff_iff]
 obtain h | h | h | h | h | h | h | h:r=0∨r=1∨r=2∨r=3∨r=4∨r=5∨r=6∨r=7:=by omega
 all_goals subst h;simp only[Nat.reduceSub,Int.reducePow,beq_iff_eq];omega
theorem tbit.is {b:B32} (hb:BOk b) {i:Nat} (hi:i<256):tbit.val b i=bQ b i:=by
 obtain⟨h1,h2⟩:=shl_bit (hb (i/8)) (show i%8<8 by omega)
 unfold tbit.val bQ
 rw[←h2]
 exact bits_tab (f:=fun x=> !(bits .and .u8 x 128==0)) (g:=fun x=>bt x 7) and128 h1.1 h1.2
def jS (b:B32) (i:Nat):Int:=bif bQ b i then 1 else 0
theorem rbit.is {b:B32} (hb:BOk b) {i:Nat} (hi:i<256):rbit.val b i=jS b i:=by
 obtain⟨x0,x1⟩:=hb (i/8)
 unfold rbit.val jS bQ bt
 have hp:(0:Int)<2^(7-i%8):=Int.pow_pos (by omega)
 rw[Int.fdiv_eq_ediv_of_nonneg _ (Int.le_of_lt hp)]
 have q0:0≤b.at (i/8)/2^(7-i%8):=Int.ediv_nonneg x0 (Int.le_of_lt hp)
 have q1:b.at (i/8)/2^(7-i%8)≤b.at (i/8):=Int.ediv_le_self _ x0
 rw[bits_tab (f:=fun x=>bits .and .u8 x 1) (g:=fun x=>x%2) and1 q0 (by omega)]
 have q2:=Int.emod_two_eq (b.at (i/8)/2^(7-i%8))
 rcases q2 with q2 | q2<;>rw[q2]<;>rfl
noncomputable def tbit.con:Con Tryd.prog GT:=con2 93 tbit.fn Tryd.func93 (by kernel_rfl) (by kernel_rfl) ay (aQ .i64) (fun b i=>aI.enc (bQ b i.toNat)) (fun b i=>[0≤i,i<256,BOk b]) (fun _ _=>rfl) fun b i h=>by
 obtain⟨h0,h1,h2,_⟩:=h
 obtain⟨n,rfl⟩:=Int.eq_ofNat_of_zero_le h0
 have hn:n<256:=by omega
 have h:=S3.dK (tbit.tab b) n hn
 have e:=dI.dO aj mixed Tryd.func93 h ⟨rfl,trivial⟩ rfl rfl
 rw[tbit.is h2 hn] at e
 exact e
noncomputable def rbit.con:Con Tryd.prog GT:=con2 61 rbit.fn Tryd.func61 (by kernel_rfl) (by kernel_rfl) ay (aQ .i64) (fun b i=>(aQ .u8).enc (jS b i.toNat)) (fun b i=>[0≤i,i<256,BOk b]) (fun _ _=>rfl) fun b i h=>by
 obtain⟨h0,h1,h2,_⟩:=h
 obtain⟨n,rfl⟩:=Int.eq_ofNat_of_zero_le h0
 have hn:n<256:=by omega
 have h:=S3.dK (rbit.tab b) n hn
 have e:=dI.dO aj mixed Tryd.func61 h ⟨rfl,trivial⟩ rfl rfl
 rw[rbit.is h2 hn] at e
 exact e
end Go.Proofs.YtdccehmekkcheaaDoor

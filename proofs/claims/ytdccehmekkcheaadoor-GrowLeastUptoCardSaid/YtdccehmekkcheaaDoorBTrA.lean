/- Nodes and leaves as rows; packages tree, beaconref11, beaconref07: what is done with bits: walks, contracts. -/
import Derived.Test.YtdccehmekkcheaaDoorBTrM
import Derived.Test.YtdccehmekkcheaaDoorBMX
namespace Go.Proofs.YtdccehmekkcheaaDoor
open Go Go.Eng Go.RowKit
set_option linter.unusedVariables false
set_option linter.unusedSimpArgs false
set_option maxRecDepth 100000
abbrev GT:Glob:=S3.Gs
abbrev tabL {α:Type}:= @S3.tabL α
abbrev tabR {α:Type}:= @S3.tabR α
theorem row_of32 {cs:List Atom} {b:B32} (h:cB32.dec (.o (.g cs))=some b):cB32.row b=cs:=by
 have:=cB32.ok _ _ h
 unfold Cod.row
 rw[this]
def cRec {α:Type} (row:α→List Atom) (of:List Atom→Option α) (ok:∀{cs k},of cs=some k→row k=cs) (ids:∀k,aQ (row k)=[]):Cod α where
 enc k:= .o (.g (row k))
 dec
  | .o (.g cs)=>of cs
  | _=>none
 ok x a h:=by
  split at h
  ·rw[ok h]
  ·cases h
 ids k:=ids k
structure Lf where
 lab:B32
 val:B32
def Nd.row (n:Nd):List Atom:=int1 .i64 n.len::(cB32.row n.pre++cB32.row n.hash)
def Lf.row (n:Lf):List Atom:=cB32.row n.lab++cB32.row n.val
theorem Nd.ids (k:Nd):aQ k.row=[]:=rfl
theorem Lf.ids (k:Lf):aQ k.row=[]:=rfl
def Nd.of:List Atom→Option Nd
 | .v (.int .i64 g)::r=>match cB32.dec (.o (.g (r.take 32))),cB32.dec (.o (.g (r.drop 32))) with
  | some a,some b=>some ⟨g,a,b⟩
  | _,_=>none
 | _=>none
theorem Nd.of_ok {cs:List Atom} {k:Nd} (h:Nd.of cs=some k):k.row=cs:=by
 unfold Nd.of at h
 split at h<;>try cases h
 split at h<;>cases h
 rename_i h1 h2
 unfold Nd.row
 rw[row_of32 h1,row_of32 h2,List.take_append_drop]
def Lf.of (r:List Atom):Option Lf:=match cB32.dec (.o (.g (r.take 32))),cB32.dec (.o (.g (r.drop 32))) with
  | some a,some b=>some ⟨a,b⟩
  | _,_=>none
theorem Lf.of_ok {cs:List Atom} {k:Lf} (h:Lf.of cs=some k):k.row=cs:=by
 unfold Lf.of at h
 split at h<;>cases h
 rename_i h1 h2
 unfold Lf.row
 rw[row_of32 h1,row_of32 h2,List.take_append_drop]
def cNd:Cod Nd:=cRec Nd.row Nd.of Nd.of_ok Nd.ids
def cLf:Cod Lf:=cRec Lf.row Lf.of Lf.of_ok Lf.ids
def lenN (x:Nat):Nat:=if x=0 then 0 else if x<2 then 1 else if x<4 then 2 else if x<8 then 3 else if x<16 then 4 else if x<32 then 5 else if x<64 then 6 else if x<128 then 7 else 8
theorem lenN_le (x:Nat):lenN x≤8:=by
 unfold lenN
 repeat' split
 all_goals omega
namespace l8
noncomputable abbrev fn:=Tryd.f94
def opS:List Oper→Option ByteArray
 | []=>none
 | o::r=>match o.op with
  | .index _ (.const (.string s)) _=>some s
  | _=>opS r
noncomputable def S:ByteArray:=match bF fn with
 | .seq _ (.seq (.region _ ops _) _)=>(opS ops.toList).getD .empty
 | _=> .empty
theorem tab:tabL (fun x=>(bytesI S).getD x 0) 256=tabR (fun x=>((lenN x:Nat):Int)) 256:=by kernel_rfl
theorem size:S.size=256:=by kernel_rfl
theorem walk (x r:Int) (h0:0≤x) (h1:x<S.size) (hr:(bytesI S).getD x.toNat 0=r) (hw:IntKind.i64.wrap r=r):FnOk Tryd.prog GT 94 [.o (.a (int1 .u8 x))] ((cInt .i64).enc r):=
 FnOk.of_out (Γ:=[]) aj mixed Tryd.func94 (n:=100) (orc:=[(4,[.n r]),(5,[.n r])]) (cs:=[0≤x,x<S.size,(bytesI S).getD x.toNat 0=r,IntKind.i64.wrap r=r]) (by kernel_rfl) ⟨h0,h1,hr,hw,trivial⟩ rfl rfl
noncomputable def con:Con Tryd.prog GT:=con1 94 fn Tryd.func94 (by kernel_rfl) (by kernel_rfl) (cInt .u8) (fun x=>(cInt .i64).enc (lenN x.toNat:Nat)) (fun x=>[Byte x]) (fun _=>rfl) fun x h=>by
 obtain⟨⟨h0,h1⟩,_⟩:=h
 have hl:lenN x.toNat≤8:=lenN_le _
 exact walk x _ h0 (by rw[size];exact h1) (S3.bK tab x.toNat (by omega)) (by rw[IntKind.wrap_i64];omega)
end l8
namespace lz
noncomputable abbrev fn:=Tryd.f81
theorem walk (x r s:Int) (hx:Byte x) (hr:(cInt .i64).enc (lenN x.toNat:Nat)=(cInt .i64).enc r) (hw:IntKind.i64.wrap (8-r)=s):FnOk Tryd.prog GT 81 [.o (.a (int1 .u8 x))] ((cInt .i64).enc s):=
 FnOk.of_out (Γ:=[l8.con]) aj mixed Tryd.func81 (n:=100) (orc:=[(4,[.s ((cInt .i64).enc r)]),(5,[.n s])]) (cs:=[Byte x,(cInt .i64).enc (lenN x.toNat:Nat)=(cInt .i64).enc r,IntKind.i64.wrap (8-r)=s]) (by kernel_rfl) ⟨hx,hr,hw,trivial⟩ rfl rfl
noncomputable def con:Con Tryd.prog GT:=con1 81 fn Tryd.func81 (by kernel_rfl) (by kernel_rfl) (cInt .u8) (fun x=>(cInt .i64).enc ((8-lenN x.toNat:Nat):Int)) (fun x=>[Byte x]) (fun _=>rfl) fun x h=>by
 have hl:lenN x.toNat≤8:=lenN_le _
 exact walk x _ _ h.1 rfl (by rw[IntKind.wrap_i64];omega)
end lz
theorem u8w (x:Int):IntKind.u8.wrap x=x%256:=by rw[IntKind.wrap_u8]
namespace tbit
noncomputable abbrev fn:=Tryd.f93
def val (b:B32) (i:Nat):Bool:= !(bits .and .u8 (IntKind.u8.wrap (b.at (i/8)*2^(i%8))) 128==0)
theorem tab (b:B32):tabL (fun i=>runOut ([]:Cons Tryd.prog GT) tys fn 100 [cB32.enc b,.o (.a (int1 .i64 (i:Int)))] [(13,[.b (val b i)])]) 256=tabR (fun i=>some (ay.enc (val b i),[(!(bits .and .u8 (IntKind.u8.wrap (b.at (i/8)*2^(i%8))) 128==0))=val b i])) 256:=by kernel_rfl
end tbit
namespace rbit
noncomputable abbrev fn:=Tryd.f61
def val (b:B32) (i:Nat):Int:=bits .and .u8 ((b.at (i/8)).fdiv (2^(7-i%8))) 1
theorem tab (b:B32):tabL (fun i=>runOut ([]:Cons Tryd.prog GT) tys fn 100 [cB32.enc b,.o (.a (int1 .i64 (i:Int)))] [(14,[.n (val b i)])]) 256=tabR (fun i=>some ((cInt .u8).enc (val b i),[bits .and .u8 ((b.at (i/8)).fdiv (2^(7-i%8))) 1=val b i])) 256:=by kernel_rfl
end rbit
theorem bits_tab {α:Type} {f g:Int→α} {n:Nat} (h:tabL (fun x=>f (x:Int)) n=tabR (fun x=>g (x:Int)) n) {x:Int} (h0:0≤x) (h1:x<n):f x=g x:=by
 have e:f (x.toNat:Int)=g (x.toNat:Int):=S3.bK h x.toNat (by omega)
 rwa [Int.toNat_of_nonneg h0] at e
theorem and128:tabL (fun x=>(!(bits .and .u8 (x:Int) 128==0))) 256=tabR (fun x=>bt (x:Int) 7) 256:=by kernel_rfl
theorem and1:tabL (fun x=>bits .and .u8 (x:Int) 1) 256=tabR (fun x=>(x:Int)%2) 256:=by kernel_rfl
theorem shl_bit {x:Int} (hx:Byte x) {r:Nat} (hr:r<8):Byte (IntKind.u8.wrap (x*2^r))∧bt (IntKind.u8.wrap (x*2^r)) 7=bt x (7-r):=by
 obtain⟨x0,x1⟩:=hx
 rw[u8w]
 refine⟨⟨by omega,by omega⟩,?_⟩
 unfold bt
 rw[Bool.eq_iff_iff]
 obtain h | h | h | h | h | h | h | h:r=0∨r=1∨r=2∨r=3∨r=4∨r=5∨r=6∨r=7:=by omega
 all_goals subst h;simp only[Nat.reduceSub,Int.reducePow,beq_iff_eq];omega
theorem tbit.is {b:B32} (hb:BOk b) {i:Nat} (hi:i<256):tbit.val b i=bitV b i:=by
 obtain⟨h1,h2⟩:=shl_bit (hb (i/8)) (show i%8<8 by omega)
 unfold tbit.val bitV
 rw[←h2]
 exact bits_tab (f:=fun x=> !(bits .and .u8 x 128==0)) (g:=fun x=>bt x 7) and128 h1.1 h1.2
def bitI (b:B32) (i:Nat):Int:=bif bitV b i then 1 else 0
theorem rbit.is {b:B32} (hb:BOk b) {i:Nat} (hi:i<256):rbit.val b i=bitI b i:=by
 obtain⟨x0,x1⟩:=hb (i/8)
 unfold rbit.val bitI bitV bt
 have hp:(0:Int)<2^(7-i%8):=Int.pow_pos (by omega)
 rw[Int.fdiv_eq_ediv_of_nonneg _ (Int.le_of_lt hp)]
 have q0:0≤b.at (i/8)/2^(7-i%8):=Int.ediv_nonneg x0 (Int.le_of_lt hp)
 have q1:b.at (i/8)/2^(7-i%8)≤b.at (i/8):=Int.ediv_le_self _ x0
 rw[bits_tab (f:=fun x=>bits .and .u8 x 1) (g:=fun x=>x%2) and1 q0 (by omega)]
 have q2:=Int.emod_two_eq (b.at (i/8)/2^(7-i%8))
 rcases q2 with q2 | q2<;>rw[q2]<;>rfl
noncomputable def tbit.con:Con Tryd.prog GT:=con2 93 tbit.fn Tryd.func93 (by kernel_rfl) (by kernel_rfl) cB32 (cInt .i64) (fun b i=>ay.enc (bitV b i.toNat)) (fun b i=>[0≤i,i<256,BOk b]) (fun _ _=>rfl) fun b i h=>by
 obtain⟨h0,h1,h2,_⟩:=h
 obtain⟨n,rfl⟩:=Int.eq_ofNat_of_zero_le h0
 have hn:n<256:=by omega
 have h:=S3.bK (tbit.tab b) n hn
 have e:=FnOk.of_out aj mixed Tryd.func93 h ⟨rfl,trivial⟩ rfl rfl
 rw[tbit.is h2 hn] at e
 exact e
noncomputable def rbit.con:Con Tryd.prog GT:=con2 61 rbit.fn Tryd.func61 (by kernel_rfl) (by kernel_rfl) cB32 (cInt .i64) (fun b i=>(cInt .u8).enc (bitI b i.toNat)) (fun b i=>[0≤i,i<256,BOk b]) (fun _ _=>rfl) fun b i h=>by
 obtain⟨h0,h1,h2,_⟩:=h
 obtain⟨n,rfl⟩:=Int.eq_ofNat_of_zero_le h0
 have hn:n<256:=by omega
 have h:=S3.bK (rbit.tab b) n hn
 have e:=FnOk.of_out aj mixed Tryd.func61 h ⟨rfl,trivial⟩ rfl rfl
 rw[rbit.is h2 hn] at e
 exact e
end Go.Proofs.YtdccehmekkcheaaDoor

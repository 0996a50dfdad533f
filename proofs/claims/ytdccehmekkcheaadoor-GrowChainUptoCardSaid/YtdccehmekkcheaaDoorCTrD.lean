/- What the listed table is; arguments that are lists of nodes, of leaves, rows of 32 bytes. -/
import Derived.Test.YtdccehmekkcheaaDoorCOpenRows
import Derived.Test.YtdccehmekkcheaaDoorCTLn
import Derived.Lib.LaidTab
import Derived.LaidMore
import Derived.LaidOnce
import Derived.Stop.Joined
import Derived.SizedLaws
import Derived.Deep.DeepHandedRow
set_option linter.unusedVariables false
namespace Go.Proofs.YtdccehmekkcheaaDoor
open Go Go.Eng Go.ChangeShapes Go.WideShapes Go.ChangeAt Go.RowKit
set_option maxRecDepth 100000
theorem own:ownKnob Tryd.prog.godebug=none:=by kernel_rfl
theorem laidOut:laidOutB Tryd.prog=true:=by kernel_rfl
theorem g256:Tryd.prog.globalNamed "beacon/sha2.k256" =some 1:=by kernel_rfl
theorem t256:(Tryd.prog.globals[1]?).map (·.type)=some 91:=by kernel_rfl
theorem laid256:(Rows.laid_beacon_sha2_k256:DataW Unit)=Lib.tabData .u32 S3.jI:=by kernel_rfl
theorem cells256:Tryd.prog.cellsOf 91=64:=by kernel_rfl
theorem cellsU32:Tryd.prog.cellsOf 89=1:=by kernel_rfl
theorem glob_of_laid {rest:List (String × DataW Unit)} {W:World} (h:laidMet Tryd.prog (("beacon/sha2.k256",Rows.laid_beacon_sha2_k256)::rest) W):GlobOk GT W:=by
 rw[laid256] at h
 have hT:=Lib.tabIs_of_head g256 t256 Tryd.underlying91 Tryd.underlying89 cellsU32 cells256 h
 unfold Lib.TabIs World.var? at hT
 rw[g256] at hT
 simp only[Option.bind_some] at hT
 intro g cs hg
 unfold GT S3.Gs at hg
 split at hg<;>cases hg
 split at hT
 ·rename_i cs' elem fr hh
  cases hT
  refine⟨?_,lT _ _,elem,fr,?_⟩
  ·rcases Nat.lt_or_ge 1 W.heap.size with h' | h'
   ·exact h'
   ·rw[Array.getElem?_eq_none h'] at hh;cases hh
  ·rw[hh]
   congr 2
 ·cases hT
theorem wE:∀(zs:List Int),zs.length=32→(∀z∈zs,(Lit.int .u8 z).wf=true)→∃b:B32,zs=b.to∧BOk b
 | [a0,a1,a2,a3,a4,a5,a6,a7,a8,a9,a10,a11,a12,a13,a14,a15,a16,a17,a18,a19,a20,a21,a22,a23,a24,a25,a26,a27,a28,a29,a30,a31],_,h=>
  ⟨⟨a0,a1,a2,a3,a4,a5,a6,a7,a8,a9,a10,a11,a12,a13,a14,a15,a16,a17,a18,a19,a20,a21,a22,a23,a24,a25,a26,a27,a28,a29,a30,a31⟩,rfl,by
   have h':∀z∈[a0,a1,a2,a3,a4,a5,a6,a7,a8,a9,a10,a11,a12,a13,a14,a15,a16,a17,a18,a19,a20,a21,a22,a23,a24,a25,a26,a27,a28,a29,a30,a31],Byte z:=fun z hz=>by
    have:=h z hz
    simp[Lit.wf,IntKind.min,IntKind.max,IntKind.signed,IntKind.bits] at this
    exact⟨this.1,by omega⟩
   intro i
   unfold B32.at
   split<;>exact h' _ (by simp)⟩
theorem wfK_rep {k:IntKind}:∀{n:Nat} {xs:List Int},xs.length=n→WfK (List.replicate n k) xs→∀z∈xs,(Lit.int k z).wf=true
 | 0,[],_,_,z,hz=>by cases hz
 | n+1,x::xs,hl,h,z,hz=>by
  rcases List.mem_cons.1 hz with rfl | hz
  ·exact h.1
  ·exact wfK_rep (by simpa using hl) h.2 z hz
theorem valK_rep {k:IntKind}:∀{n:Nat} {xs:List Int},xs.length=n→eF (List.replicate n k) xs=xs.map (Value.int k)
 | 0,[],_=>rfl
 | n+1,x::xs,hl=>by
  rw[List.replicate_succ,eF,valK_rep (by simpa using hl)]
  rfl
theorem two32 {zs:List Int} (hl:zs.length=64) (hw:∀z∈zs,(Lit.int .u8 z).wf=true):∃a b:B32,zs=a.to++b.to∧BOk a∧BOk b:=by
 obtain⟨a,ha,ka⟩:=wE (zs.take 32) (by rw[List.length_take];omega) fun z hz=>hw z (List.mem_of_mem_take hz)
 obtain⟨b,hb,kb⟩:=wE (zs.drop 32) (by rw[List.length_drop];omega) fun z hz=>hw z (List.mem_of_mem_drop hz)
 exact⟨a,b,by rw[←ha,←hb,List.take_append_drop],ka,kb⟩
abbrev LfIs (cs:List Value):Prop:=∃x:Lf,cs=x.vals∧LOk x
section
variable {H:Type} {enc:TypeId × Value→H} {w:World} {base:Nat} {held:Bool} {r:Reach} {b0:Nat} {v:Value} {d:DataW H} {ps:List MemPlace}
theorem sF (hval:Value.okWide Tryd.prog w r b0 22 v) (hd:DataW.Trod enc Tryd.prog w base (fun _=>true) held 22 v d ps):∃x:VArg,v=x.val∧(x.ok 64 w∧x.each 64 LfIs):=by
 have hc:Tryd.prog.cellsOf 30=64:=by kernel_rfl
 obtain⟨x,h1,h2,h3⟩:=open_varg (Q:=LfIs) Tryd.underlying22 (by omega) (fun fuel cs x hx=>by
  obtain⟨zs,g1,g2,_,g4⟩:=uR 5 fuel 30 (List.replicate 64 .u8) cs x (by kernel_rfl) hx
  have g2:zs.length=64:=by rw[g2];rfl
  obtain⟨a,b,rfl,ka,kb⟩:=two32 g2 (wfK_rep g2 g4)
  exact⟨⟨a,b⟩,by rw[g1,valK_rep g2];rfl,ka,kb⟩) hval hd
 rw[hc] at h2 h3
 exact⟨x,h1,h2,h3⟩
end
abbrev zeroB:B32:=zB
def VArg.n:VArg→Nat
 | .none _=>0
 | .win _ n _ _ _=>n
theorem varg_len {H:Type} {enc:TypeId × Value→H} {P:Program} {W:World} {base:Nat} {held:Bool} {t e:TypeId} {x:VArg} {d:DataW H} {ps:List MemPlace} (ht:P.underlying t=some (.slice e))
  (hd:DataW.Trod enc P W base (fun _=>true) held t x.val d ps):x.n=0∨∃el sp,d= .slice el sp∧el.length=x.n:=by
 cases x with
 | none a=>exact .inl rfl
 | win vs n c ty l=>
  right
  obtain⟨fuel,hf⟩:=hd
  rcases DataW.trod_slice ht hf with⟨hcs,_⟩ | ⟨a,len',cap',elems,rest,n',_,hcs,hx,hb,hl,hm,hlen,_⟩
  ·simp[VArg.val,Value.cells] at hcs
  ·simp only[VArg.val,Value.cells,List.cons.injEq,Value.slice.injEq,and_true] at hcs
   simp only[Prod.mk.injEq] at hx
   exact⟨_,_,hx.1,by rw[List.length_map,hlen,←hcs.2.1];rfl⟩
theorem bulk_one {H:Type} (d:DataW H):1≤Rows.uptoBulk d:=by
 cases d with
 | lit l=>cases l<;>simp[Rows.uptoBulk]
 | nil=>simp[Rows.uptoBulk]
 | ptr d=>simp[Rows.uptoBulk]
 | slice elems spare=>simp[Rows.uptoBulk]
 | agg parts=>simp[Rows.uptoBulk]
 | iface t d=>simp[Rows.uptoBulk]
 | map entries=>simp[Rows.uptoBulk]
 | held h=>simp[Rows.uptoBulk]
theorem bulk_length {H:Type} (l:List (DataW H)):l.length≤Rows.uptoBulkAll l:=by
 induction l with
 | nil=>simp[Rows.uptoBulkAll]
 | cons x r ih=>have:=bulk_one x;simp only[Rows.uptoBulkAll,List.length_cons];omega
theorem bulk_part {H:Type} {d:DataW H} {l:List (DataW H)} (h:d∈l):Rows.uptoBulk d≤Rows.uptoBulkAll l:=by
 induction l with
 | nil=>cases h
 | cons x r ih=>
  simp only[Rows.uptoBulkAll]
  cases List.mem_cons.1 h with
  | inl e=>subst e;omega
  | inr e=>have:=ih e;omega
theorem bulk_bound {H:Type} {l:List (DataW H)} (hk:Rows.uptoSmall H l=true):Rows.uptoBulkAll l≤1048576:=of_decide_eq_true hk
theorem tV {H:Type} {x:VArg} {d:DataW H} {l:List (DataW H)} (h:x.n=0∨∃el sp,d= .slice el sp∧el.length=x.n) (hd:d∈l) (hk:Rows.uptoSmall H l=true):x.n≤1048576:=by
 rcases h with h | ⟨el,sp,rfl,h⟩
 ·rw[h];exact Nat.zero_le _
 ·have h1:=bulk_part hd
  have h2:=bulk_bound hk
  have h3:=bulk_length el
  simp only[Rows.uptoBulk] at h1
  omega
end Go.Proofs.YtdccehmekkcheaaDoor

import Derived.Test.YthlmepolmemejaaGreatDoorLKLz
import Derived.Test.YthlmepolmemejaaGreatDoorLLChn
import Derived.Test.YthlmepolmemejaaGreatDoorLOpenRows
import Derived.Test.YthlmepolmemejaaGreatDoorLEDoor
set_option linter.unusedSimpArgs false
set_option linter.unusedVariables false
namespace Go.Proofs.YthlmepolmemejaaGreatDoor
open Go Go.Eng Go.RowKit
set_option maxRecDepth 100000
theorem made_cok {S:List B32} {E:List Int} (q:Nat) (hq:q≤5):∀i,i<q→COk ((mkL bQ S E q).getD i zc):=fun i h=>by
 rw[mk_get bQ S E q i h]
 exact cert_okC _ (keysV_ok _ ⟨by omega,by omega⟩) (epM_u E (i+1))
theorem mem_getD {S:List B32} {R:B32→Prop} (h:∀x∈S,R x) (i:Nat) (hi:i<S.length):R (S.getD i aM):=by
 have e:S.getD i aM=S[i]:=by simp[List.getD,List.getElem?_eq_getElem hi]
 rw[e]
 exact h _ (List.getElem_mem hi)
abbrev SecOk (cs:List Value):Prop:=∃b:B32,cs=b32v b∧BOk b
theorem F_ok {S:List B32} {n:Nat} (hn:S.length=n) (h:∀i,i<n→BOk (S.getD i aM)):BOk (bI (S.getD 0 aM) 0).sg:=by
 exact(keysV_ok _ ⟨by omega,by omega⟩).2.1
theorem lkl_ok (x:VArg) (y:SArg) (at_ wh ep:Int) (W:World) (hxx:x.ok 32 W∧x.each 32 SecOk) (hy:y.ok .u8 W) (ha:(Lit.int .i64 at_).wf=true) (hw:(Lit.int .i64 wh).wf=true) (he:(Lit.int .u64 ep).wf=true) (hg:GlobOk G3 W):
  Calls Tryz.prog 4 #[x.val,y.val,.int .i64 at_,.int .i64 wh,.int .u64 ep] W fun e W'=>e= .returned (.bool true)∧Below W.heap.size W W':=by
 obtain⟨hx,hx2⟩:=hxx
 obtain⟨_,_,tyD,frD,hgD⟩:=hg 2 _ rfl
 cases x with
 | win vs n c tx Lx=>
  obtain⟨g1,g2,g3,g4,fr,pre,tail,g5,g6⟩:=hx
  obtain⟨S,rfl,hn,hS⟩:=split_rows (f:=b32v) (sz:=32) (R:=BOk) n vs g1 hx2
  have hb:∀i,i<n→BOk (S.getD i aM):=fun i h=>mem_getD hS i (by omega)
  have hm:n≤9223372036854775807:=by
                      have:=hn;have h1:maxLen=9223372036854775807:=by decide
                      have:=g4;omega
  cases y with
  | win E m d ty' Ly=>
   obtain⟨k1,k2,k3,k4,k5,fr',pre',tail',k6,k7⟩:=hy
   refine wT ah Tryz.func4 (c:=lkl.body) (by kernel_rfl) hg (fun i=>match i with | 0=>Lx | _=>Ly) (l:=[⟨false,tx,.prv (bD S)⟩,⟨false,ty',.pre .u8 E⟩]) (args:=[.o (.a (.sld 0 0 0 n c)),.o (.a (.sld 1 0 0 m d)),.o (.a (aB .i64 at_)),.o (.a (aB .i64 wh)),.o (.a (aB .u64 ep))]) (r:=aY.enc true) ?_ ?_ rfl ?_
   ·intro i bb hbb
    match i,hbb with
    | 0,hbb=>cases hbb;exact⟨rfl,rfl,fr,pre,_,g5,g6,⟨tail,rfl⟩⟩
    | 1,hbb=>cases hbb;exact⟨rfl,rfl,fr',pre',_,k6,k7,⟨tail',rfl⟩⟩
    | i+2,hbb=>cases hbb
   ·intro z hz k hk
    simp only[List.mem_cons,List.not_mem_nil,or_false] at hz
    rcases hz with rfl | rfl | rfl | rfl | rfl<;>simp[SV.ids,SV1.ids,Atom.ids,aB] at hk ⊢ <;>omega
   ·by_cases h0:mkN n=0
    ·exact lkl.zww.run ccV rfl bQ rfl S n c tx E m d ty' (bI (S.getD 0 aM) 0) ep at_ wh hn g2 hm hb h0 rfl k1 k2 vG
    ·have h5:mkN n≤5:=by unfold mkN;omega
     exact lkl.pww.run ccV rfl bQ rfl S n c tx E m d ty' (bI (S.getD 0 aM) 0) ep at_ wh (mkL bQ S E (mkN n)) (mkN n) hn g2 hm hb rfl vG rfl (by omega) k1 k2 rfl h5 (uh ..) (made_cok _ h5) (F_ok hn hb) (u64_wf he)
  | none a=>
   refine wT ah Tryz.func4 (c:=lkl.body) (by kernel_rfl) hg (fun i=>match i with | 0=>Lx | _=>⟨2,0,0⟩) (l:=[⟨false,tx,.prv (bD S)⟩,⟨false,tyD,.pre .u8 []⟩]) (args:=[.o (.a (.sld 0 0 0 n c)),.o (.a (.v (.slice a 0 0))),.o (.a (aB .i64 at_)),.o (.a (aB .i64 wh)),.o (.a (aB .u64 ep))]) (r:=aY.enc true) ?_ ?_ rfl ?_
   ·intro i bb hbb
    match i,hbb with
    | 0,hbb=>cases hbb;exact⟨rfl,rfl,fr,pre,_,g5,g6,⟨tail,rfl⟩⟩
    | 1,hbb=>cases hbb;exact⟨rfl,rfl,frD,[],_,hgD,rfl,⟨_,rfl⟩⟩
    | i+2,hbb=>cases hbb
   ·intro z hz k hk
    simp only[List.mem_cons,List.not_mem_nil,or_false] at hz
    rcases hz with rfl | rfl | rfl | rfl | rfl<;>simp[SV.ids,SV1.ids,Atom.ids,aB] at hk ⊢ <;>omega
   ·by_cases h0:mkN n=0
    ·exact lkl.zwv.run ccV rfl bQ rfl S n c tx a tyD (bI (S.getD 0 aM) 0) ep at_ wh hn g2 hm hb h0 rfl vG
    ·have h5:mkN n≤5:=by unfold mkN;omega
     exact lkl.pwv.run ccV rfl bQ rfl S n c tx a tyD (bI (S.getD 0 aM) 0) ep at_ wh (mkL bQ S [] (mkN n)) (mkN n) hn g2 hm hb rfl vG rfl (by omega) rfl h5 (uh ..) (made_cok _ h5) (F_ok hn hb) (u64_wf he)
 | none b=>
  cases y with
  | win E m d ty' Ly=>
   obtain⟨k1,k2,k3,k4,k5,fr',pre',tail',k6,k7⟩:=hy
   refine wT ah Tryz.func4 (c:=lkl.body) (by kernel_rfl) hg (fun i=>match i with | 0=>⟨2,0,0⟩ | _=>Ly) (l:=[⟨false,tyD,.prv (bD [])⟩,⟨false,ty',.pre .u8 E⟩]) (args:=[.o (.a (.v (.slice b 0 0))),.o (.a (.sld 1 0 0 m d)),.o (.a (aB .i64 at_)),.o (.a (aB .i64 wh)),.o (.a (aB .u64 ep))]) (r:=aY.enc true) ?_ ?_ rfl ?_
   ·intro i bb hbb
    match i,hbb with
    | 0,hbb=>cases hbb;exact⟨rfl,rfl,frD,[],_,hgD,rfl,⟨_,rfl⟩⟩
    | 1,hbb=>cases hbb;exact⟨rfl,rfl,fr',pre',_,k6,k7,⟨tail',rfl⟩⟩
    | i+2,hbb=>cases hbb
   ·intro z hz k hk
    simp only[List.mem_cons,List.not_mem_nil,or_false] at hz
    rcases hz with rfl | rfl | rfl | rfl | rfl<;>simp[SV.ids,SV1.ids,Atom.ids,aB] at hk ⊢ <;>omega
   ·exact lkl.zvw.run ccV rfl bQ rfl b tyD E m d ty' (bI aM 0) ep at_ wh rfl k1 k2 vG
  | none a=>
   refine wT ah Tryz.func4 (c:=lkl.body) (by kernel_rfl) hg (fun i=>match i with | 0=>⟨2,0,0⟩ | _=>⟨2,0,0⟩) (l:=[⟨false,tyD,.prv (bD [])⟩,⟨false,tyD,.pre .u8 []⟩]) (args:=[.o (.a (.v (.slice b 0 0))),.o (.a (.v (.slice a 0 0))),.o (.a (aB .i64 at_)),.o (.a (aB .i64 wh)),.o (.a (aB .u64 ep))]) (r:=aY.enc true) ?_ ?_ rfl ?_
   ·intro i bb hbb
    match i,hbb with
    | 0,hbb=>cases hbb;exact⟨rfl,rfl,frD,[],_,hgD,rfl,⟨_,rfl⟩⟩
    | 1,hbb=>cases hbb;exact⟨rfl,rfl,frD,[],_,hgD,rfl,⟨_,rfl⟩⟩
    | i+2,hbb=>cases hbb
   ·intro z hz k hk
    simp only[List.mem_cons,List.not_mem_nil,or_false] at hz
    rcases hz with rfl | rfl | rfl | rfl | rfl<;>simp[SV.ids,SV1.ids,Atom.ids,aB] at hk ⊢ <;>omega
   ·exact lkl.zvv.run ccV rfl bQ rfl b tyD a tyD (bI aM 0) ep at_ wh rfl vG
section
variable {H:Type} {enc:TypeId × Value→H} {w:World} {base:Nat} {held:Bool} {r:Reach} {b0:Nat} {v:Value} {d:DataW H} {ps:List MemPlace}
theorem open_rows32 (hval:Value.okWide Tryz.prog w r b0 22 v) (hd:DataW.Trod enc Tryz.prog w base (fun _=>true) held 22 v d ps):∃x:VArg,v=x.val∧(x.ok 32 w∧x.each 32 SecOk):=by
 have hc:Tryz.prog.cellsOf 26=32:=by kernel_rfl
 obtain⟨x,h1,h2,h3⟩:=open_varg (Q:=SecOk) Tryz.underlying22 (by omega) (fun fuel cs x hx=>by
  obtain⟨zs,g1,g2,_,g4⟩:=zD 5 fuel 26 (List.replicate 32 .u8) cs x (by kernel_rfl) hx
  obtain⟨b,rfl,hb⟩:=row32 (by rw[g2];rfl) g4
  exact⟨b,g1,hb⟩) hval hd
 rw[hc] at h2 h3
 exact⟨x,h1,h2,h3⟩
end
end Go.Proofs.YthlmepolmemejaaGreatDoor

import Derived.Test.YthlmepolmemejaaGreatDoorHLKCha
import Derived.Test.YthlmepolmemejaaGreatDoorHLChn
import Derived.Test.YthlmepolmemejaaGreatDoorHOpenRows
import Derived.Test.YthlmepolmemejaaGreatDoorHEDoor
namespace Go.Proofs.YthlmepolmemejaaGreatDoor
open Go Go.Eng Go.RowKit
set_option linter.unusedVariables false
set_option linter.unusedSimpArgs false
set_option maxRecDepth 100000
theorem made_cok {S:List B32} {E:List Int} (q:Nat) (hq:q≤5):∀i,i<q→COk ((mkL aW S E q).getD i zc):=fun i h=>by
 rw[mk_get aW S E q i h]
 exact cert_okC _ (keysV_ok _ ⟨by omega,by omega⟩) (epM_u E (i+1))
theorem mem_getD {S:List B32} {R:B32→Prop} (h:∀x∈S,R x) (i:Nat) (hi:i<S.length):R (S.getD i aA):=by
 have e:S.getD i aA=S[i]:=by simp[List.getD,List.getElem?_eq_getElem hi]
 rw[e]
 exact h _ (List.getElem_mem hi)
theorem byte_getD {E:List Int} (h:∀y∈E,(Lit.int .u8 y).wf=true) (i:Nat):0≤E.getD i 0∧E.getD i 0<256:=by
 rcases Nat.lt_or_ge i E.length with hi | hi
 ·have e:E.getD i 0=E[i]:=by simp[List.getD,List.getElem?_eq_getElem hi]
  have hw:=h _ (List.getElem_mem hi)
  rw[e]
  simp[Lit.wf,IntKind.min,IntKind.max,IntKind.signed,IntKind.bits] at hw
  exact⟨hw.1,by omega⟩
 ·have e:E.getD i 0=0:=by simp[List.getD,List.getElem?_eq_none hi]
  rw[e]
  decide
abbrev SecOk (cs:List Value):Prop:=∃b:B32,cs=b32v b∧BOk b
theorem lcha_ok (x:VArg) (y:SArg) (ep:Int) (W:World) (hxx:x.ok 32 W∧x.each 32 SecOk) (hy:y.ok .u8 W) (he:(Lit.int .u64 ep).wf=true) (hg:GlobOk G3 W):
  Calls Tryz.prog 3 #[x.val,y.val,.int .u64 ep] W fun e W'=>e= .returned (.bool true)∧Below W.heap.size W W':=by
 obtain⟨hx,hx2⟩:=hxx
 cases x with
 | win vs n c tx Lx=>
  obtain⟨g1,g2,g3,g4,fr,pre,tail,g5,g6⟩:=hx
  obtain⟨S,rfl,hn,hS⟩:=split_rows (f:=b32v) (sz:=32) (R:=BOk) n vs g1 hx2
  have hb:∀i,i<n→BOk (S.getD i aA):=fun i h=>mem_getD hS i (by omega)
  have hm:n≤9223372036854775807:=by
                      have:=hn;have h1:maxLen=9223372036854775807:=by decide
                      have:=g4;omega
  cases y with
  | win E m d ty' Ly=>
   obtain⟨k1,k2,k3,k4,k5,fr',pre',tail',k6,k7⟩:=hy
   refine law_calls ah Tryz.func3 (c:=lch.body) (by kernel_rfl) hg (fun i=>match i with | 0=>Lx | _=>Ly) (l:=[⟨false,tx,.prv (bg S)⟩,⟨false,ty',.pre .u8 E⟩]) (args:=[.o (.a (.sld 0 0 0 n c)),.o (.a (.sld 1 0 0 m d)),.o (.a (int1 .u64 ep))]) (r:=bE.enc true) ?_ ?_ rfl ?_
   ·intro i bb hbb
    match i,hbb with
    | 0,hbb=>cases hbb;exact⟨rfl,rfl,fr,pre,_,g5,g6,⟨tail,rfl⟩⟩
    | 1,hbb=>cases hbb;exact⟨rfl,rfl,fr',pre',_,k6,k7,⟨tail',rfl⟩⟩
    | i+2,hbb=>cases hbb
   ·intro z hz k hk
    simp only[List.mem_cons,List.not_mem_nil,or_false] at hz
    rcases hz with rfl | rfl | rfl<;>simp[SV.ids,SV1.ids,Atom.ids,int1] at hk ⊢ <;>omega
   ·by_cases h0:mkN n=0
    ·exact lch.zww.run aW rfl ccV rfl S (aQ (S.getD 0 aA) 0) ep n c tx E m d ty' hn g2 hm hb h0 rfl k1 k2 zero_ok
    ·have h5:mkN n≤5:=by unfold mkN;omega
     exact lch.ww.run aW rfl ccV rfl S (aQ (S.getD 0 aA) 0) (mkL aW S E (mkN n)) (mkN n) n c tx ep E m d ty' hn g2 k1 k2 hm hb zero_ok rfl rfl (by omega) rfl (made_cok _ h5) (made_chain (byte_getD k5) h5 _ (Nat.le_refl _))
  | none a=>
   refine law_calls ah Tryz.func3 (c:=lch.body) (by kernel_rfl) hg (fun _=>Lx) (l:=[⟨false,tx,.prv (bg S)⟩]) (args:=[.o (.a (.sld 0 0 0 n c)),.o (.a (.v (.slice a 0 0))),.o (.a (int1 .u64 ep))]) (r:=bE.enc true) ?_ ?_ rfl ?_
   ·intro i bb hbb
    match i,hbb with
    | 0,hbb=>cases hbb;exact⟨rfl,rfl,fr,pre,_,g5,g6,⟨tail,rfl⟩⟩
    | i+1,hbb=>cases hbb
   ·intro z hz k hk
    simp only[List.mem_cons,List.not_mem_nil,or_false] at hz
    rcases hz with rfl | rfl | rfl<;>simp[SV.ids,SV1.ids,Atom.ids,int1] at hk ⊢ <;>omega
   ·by_cases h0:mkN n=0
    ·exact lch.zwv.run aW rfl ccV rfl S (aQ (S.getD 0 aA) 0) ep n c tx a hn g2 hm hb h0 rfl zero_ok
    ·have h5:mkN n≤5:=by unfold mkN;omega
     exact lch.wv.run aW rfl ccV rfl S (aQ (S.getD 0 aA) 0) (mkL aW S [] (mkN n)) (mkN n) n c tx ep a hn g2 hm hb zero_ok rfl rfl (by omega) rfl (made_cok _ h5) (made_chain (fun i=>⟨by simp,by simp⟩) h5 _ (Nat.le_refl _))
 | none b=>
  cases y with
  | win E m d ty' Ly=>
   obtain⟨k1,k2,k3,k4,k5,fr',pre',tail',k6,k7⟩:=hy
   refine law_calls ah Tryz.func3 (c:=lch.body) (by kernel_rfl) hg (fun _=>Ly) (l:=[⟨false,ty',.pre .u8 E⟩]) (args:=[.o (.a (.v (.slice b 0 0))),.o (.a (.sld 0 0 0 m d)),.o (.a (int1 .u64 ep))]) (r:=bE.enc true) ?_ ?_ rfl ?_
   ·intro i bb hbb
    match i,hbb with
    | 0,hbb=>cases hbb;exact⟨rfl,rfl,fr',pre',_,k6,k7,⟨tail',rfl⟩⟩
    | i+1,hbb=>cases hbb
   ·intro z hz k hk
    simp only[List.mem_cons,List.not_mem_nil,or_false] at hz
    rcases hz with rfl | rfl | rfl<;>simp[SV.ids,SV1.ids,Atom.ids,int1] at hk ⊢ <;>omega
   ·exact lch.zvw.run aW rfl ccV rfl [] (aQ aA 0) ep b E m d ty' rfl k1 k2 zero_ok
  | none a=>
   refine law_calls ah Tryz.func3 (c:=lch.body) (by kernel_rfl) hg lam0 (l:=[]) (args:=[.o (.a (.v (.slice b 0 0))),.o (.a (.v (.slice a 0 0))),.o (.a (int1 .u64 ep))]) (r:=bE.enc true) ?_ ?_ rfl ?_
   ·intro i bb hbb;cases hbb
   ·intro z hz k hk
    simp only[List.mem_cons,List.not_mem_nil,or_false] at hz
    rcases hz with rfl | rfl | rfl<;>simp[SV.ids,SV1.ids,Atom.ids,int1] at hk ⊢ <;>omega
   ·exact lch.zvv.run aW rfl ccV rfl [] (aQ aA 0) ep b a rfl zero_ok
section
variable {H:Type} {enc:TypeId × Value→H} {w:World} {base:Nat} {held:Bool} {r:Reach} {b0:Nat} {v:Value} {d:DataW H} {ps:List MemPlace}
theorem open_rows32 (hval:Value.okWide Tryz.prog w r b0 22 v) (hd:DataW.Trod enc Tryz.prog w base (fun _=>true) held 22 v d ps):∃x:VArg,v=x.val∧(x.ok 32 w∧x.each 32 SecOk):=by
 have hc:Tryz.prog.cellsOf 26=32:=by kernel_rfl
 obtain⟨x,h1,h2,h3⟩:=open_varg (Q:=SecOk) Tryz.underlying22 (by omega) (fun fuel cs x hx=>by
  obtain⟨zs,g1,g2,_,g4⟩:=trod_flat 5 fuel 26 (List.replicate 32 .u8) cs x (by kernel_rfl) hx
  obtain⟨b,rfl,hb⟩:=row32 (by rw[g2];rfl) g4
  exact⟨b,g1,hb⟩) hval hd
 rw[hc] at h2 h3
 exact⟨x,h1,h2,h3⟩
end
end Go.Proofs.YthlmepolmemejaaGreatDoor

/- Arguments that are lists of links. -/
import Derived.Test.YtdccehmekkcheaaDoorLTrD
import Derived.Test.YtdccehmekkcheaaDoorLLk
namespace Go.Proofs.YtdccehmekkcheaaDoor
open Go Go.Eng Go.ChangeShapes Go.WideShapes Go.ChangeAt Go.RowKit
set_option linter.unusedVariables false
set_option maxRecDepth 100000
abbrev LkIs (cs:List Value):Prop:=∃x:Lk,cs=x.vals∧KOk3 x
theorem open_links {H:Type} {enc:TypeId × Value→H} {w:World} {base:Nat} {held:Bool} {r:Reach} {b0:Nat} {v:Value} {d:DataW H} {ps:List MemPlace}
  (hval:Value.okWide Tryd.prog w r b0 66 v) (hd:DataW.Trod enc Tryd.prog w base (fun _=>true) held 66 v d ps):∃x:VArg,v=x.val∧(x.ok 96 w∧x.each 96 LkIs):=by
 have hc:Tryd.prog.cellsOf 68=96:=by kernel_rfl
 obtain⟨x,h1,h2,h3⟩:=open_varg (Q:=LkIs) Tryd.underlying66 (by omega) (fun fuel cs x hx=>by
  obtain⟨zs,g1,g2,_,g4⟩:=trod_flat 5 fuel 68 (List.replicate 96 .u8) cs x (by kernel_rfl) hx
  have g2:zs.length=96:=by rw[g2];rfl
  have hw:=wfK_rep g2 g4
  obtain⟨a,ha,ka⟩:=b32_of_list (zs.take 32) (by rw[List.length_take];omega) fun z hz=>hw z (List.mem_of_mem_take hz)
  obtain⟨b,c,hb,kb,kc⟩:=two32 (zs:=zs.drop 32) (by rw[List.length_drop];omega) fun z hz=>hw z (List.mem_of_mem_drop hz)
  have e:zs=a.to++(b.to++c.to):=by rw[←ha,←hb,List.take_append_drop]
  subst e
  exact⟨⟨a,b,c⟩,by rw[g1,valK_rep g2];rfl,ka,kb,kc⟩) hval hd
 rw[hc] at h2 h3
 exact⟨x,h1,h2,h3⟩
end Go.Proofs.YtdccehmekkcheaaDoor

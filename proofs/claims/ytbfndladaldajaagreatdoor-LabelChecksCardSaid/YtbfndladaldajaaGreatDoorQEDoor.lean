/- The two listed variables, as the walks ask for them; a world that holds them as the program's own start lays them; laws over rows of bytes and slices. -/
import Derived.Test.YtbfndladaldajaaGreatDoorQMA
import Derived.Test.YtbfndladaldajaaGreatDoorQMC
import Derived.Test.YtbfndladaldajaaGreatDoorQMF
import Derived.Lib.LaidTab
import Derived.LaidMore
import Derived.LaidOnce
import Derived.Stop.Joined
import Derived.SizedLaws
namespace Go.Proofs.YtbfndladaldajaaGreatDoor
open Go Go.Eng Go.ChangeShapes Go.WideShapes Go.ChangeAt Go.RowKit
set_option linter.unusedVariables false
set_option maxRecDepth 100000
theorem own:ownKnob Tryz.prog.godebug=none:=by kernel_rfl
theorem laidOut:laidOutB Tryz.prog=true:=by kernel_rfl
abbrev laid2:List (String × DataW Unit):=[("beacon/scalar.order",Rows.laid_beacon_scalar_order),("beacon/sha2.k512",Rows.laid_beacon_sha2_k512)]
theorem gord:Tryz.prog.globalNamed "beacon/scalar.order" =some 0:=by kernel_rfl
theorem g512:Tryz.prog.globalNamed "beacon/sha2.k512" =some 1:=by kernel_rfl
theorem tord:(Tryz.prog.globals[0]?).map (·.type)=some 165:=by kernel_rfl
theorem t512:(Tryz.prog.globals[1]?).map (·.type)=some 159:=by kernel_rfl
theorem laidOrd:(Rows.laid_beacon_scalar_order:DataW Unit)=Lib.tabData .u64 orderL:=by kernel_rfl
theorem laid512:(Rows.laid_beacon_sha2_k512:DataW Unit)=Lib.tabData .u64 k512L:=by kernel_rfl
theorem cellsOrd:Tryz.prog.cellsOf 165=4:=by kernel_rfl
theorem cells512:Tryz.prog.cellsOf 159=80:=by kernel_rfl
theorem cellsU64:Tryz.prog.cellsOf 23=1:=by kernel_rfl
theorem bytesU8:Tryz.prog.bytesOf 5=1:=by kernel_rfl
theorem door_met2 (os:Os) (args:Array Value):laidMetH Tryz.prog laid2 ((World.doorLaid Tryz.prog 400 os).forCall (fun _ _=>0) ⟨#[],args,[]⟩).memory:=
 laidMetH_of_parts3 (fuel:=8) (laidMet_of_run' 8 (by kernel_rfl) (by kernel_rfl)) (by kernel_rfl) (by kernel_rfl)
theorem row_of_tab {W:World} {name:String} {k:IntKind} {zs:List Int} {g:Nat} (hg:Tryz.prog.globalNamed name=some g) (hT:Lib.TabIs Tryz.prog W name k zs):
  g<W.heap.size∧∃e fr,W.heap[g]? =some (.cells ((zs.map fun n=>Value.int k n)).toArray e fr):=by
 unfold Lib.TabIs World.var? at hT
 rw[hg] at hT
 simp only[Option.bind_some] at hT
 split at hT
 ·rename_i cs' elem fr hh
  cases hT
  refine⟨?_,elem,fr,hh⟩
  rcases Nat.lt_or_ge g W.heap.size with h' | h'
  ·exact h'
  ·rw[Array.getElem?_eq_none h'] at hh;cases hh
 ·cases hT
theorem tab2_of_laid {W:World} (h:laidMet Tryz.prog laid2 W):Lib.TabIs Tryz.prog W "beacon/sha2.k512" .u64 k512L:=by
 unfold laid2 at h
 rw[laid512] at h
 obtain⟨ps,⟨_,_,_,_,_,_,_,_,_,_,⟨g',t',cs,fuel,p,q,hg',ht',hvar,hd,_,_⟩,_⟩,_⟩:=h
 obtain rfl:=Option.some.inj (g512.symm.trans hg')
 obtain rfl:=Option.some.inj (t512.symm.trans ht')
 unfold Lib.TabIs
 rw[hvar,←Lib.cells_of_tab Tryz.underlying159 Tryz.underlying23 cellsU64 cells512 hd]
theorem glob_of_laid2 {W:World} (h:laidMet Tryz.prog laid2 W):GlobOk G2 W:=by
 have h2:=tab2_of_laid h
 unfold laid2 at h
 rw[laidOrd] at h
 have h1:=Lib.tabIs_of_head gord tord Tryz.underlying165 Tryz.underlying23 cellsU64 cellsOrd h
 intro g cs hg
 unfold G2 at hg
 split at hg<;>cases hg
 ·obtain⟨q1,ty,fr,q2⟩:=row_of_tab gord h1
  refine⟨q1,idsAll_ints _ _,ty,fr,?_⟩
  rw[q2]
  congr 2
 ·obtain⟨q1,ty,fr,q2⟩:=row_of_tab g512 h2
  refine⟨q1,idsAll_ints _ _,ty,fr,?_⟩
  rw[q2]
  congr 2
theorem sarg_len {H:Type} {enc:TypeId × Value→H} {P:Program} {W:World} {base:Nat} {held:Bool} {t e:TypeId} {kd:IntKind} {x:SArg} {d:DataW H} {ps:List MemPlace}
  (ht:P.underlying t=some (.slice e)) (he:P.underlying e=some (.int kd)) (hc:P.cellsOf e=1) (hx:x.ok kd W) (hd:DataW.Trod enc P W base (fun _=>true) held t x.val d ps):
  x.ints=[]∨∃el sp,d= .slice el sp∧el.length=x.ints.length:=by
 cases x with
 | none a=>exact .inl rfl
 | win ys n c ty l=>
  right
  obtain⟨fuel,hf⟩:=hd
  rcases ChangeShapes.open_ints ht he hc hf with⟨hcs,_⟩ | ⟨a,len',cap',zs,hcs,_,hl,hm,hz,hdd,hcell,hwz⟩
  ·simp[SArg.val,Value.cells] at hcs
  ·simp only[SArg.val,Value.cells,List.cons.injEq,Value.slice.injEq,and_true] at hcs
   simp only[Prod.mk.injEq] at hdd
   simp only[if_true] at hz
   obtain⟨h1,_⟩:=hx
   refine⟨_,_,hdd.1,?_⟩
   show(lits kd (zs.take len')).length=ys.length
   unfold lits
   rw[List.length_map,List.length_take,h1]
   omega
theorem sarg_reach {H:Type} {P:Program} {ts:List TypeId} {ds:List (DataW H)} {x:SArg} {d:DataW H} {j:Nat} {t e:TypeId} (h:x.ints=[]∨∃el sp,d= .slice el sp∧el.length=x.ints.length) (hz:(DataW.weightsEach P ts ds).all (· ≤reachBytes)=true)
  (ht:ts[j]? =some t) (hd:ds[j]? =some d) (hu:P.underlying t=some (.slice e)) (hb:P.bytesOf e=1):x.ints.length≤140737488351232:=by
 rcases h with h | ⟨el,sp,rfl,h⟩
 ·rw[h];exact Nat.zero_le _
 ·have:=sized_slice hz ht hd hu
  rw[hb] at this
  unfold reachBytes at this
  omega
def lam0:Nat→Eng.Loc:=fun _=>⟨0,0,0⟩
theorem den_lam {v:SV} (h:v.ids=[]) (lam:Nat→Eng.Loc):v.den lam=v.den lam0:=denS_congr v (by intro k hk;rw[h] at hk;cases hk)
theorem dens_lam (lam:Nat→Eng.Loc):∀(l:List SV),(∀v∈l,v.ids=[])→l.map (SV.den lam)=l.map (SV.den lam0)
 | [],_=>rfl
 | v::l,h=>by rw[List.map_cons,List.map_cons,den_lam (h v (by simp)) lam,dens_lam lam l (fun w hw=>h w (by simp[hw]))]
theorem law_mix {G:Glob} {P:Program} {T:Ty} (hT:T.ok P) {f:FuncId} {fn:Func} (hf:P.funcs[f]? =some fn) {c:Code} (hb:fn.body=some c) {W:World} (hg:GlobOk G W) (kd:IntKind) (pre:List SV) (l:List SArg) (post:List SV)
  (hp:∀v∈pre,v.ids=[]) (hq:∀v∈post,v.ids=[]) (hok:∀x∈l,x.ok kd W) {r:SV} (hr:r.ids=[])
  (hrun:invAll (sCaps l) 0 (l.map (SArg.pa kd))→aG P G (sBlks kd l).length c (aA fn (pre++(locArgs (sCaps l) 0 (l.map (SArg.pa kd))++post))) (sBlks kd l) (aD T fn (aX r .none))):
  Calls P f (pre.map (SV.den lam0)++(l.map SArg.val++post.map (SV.den lam0))).toArray W fun e W'=>e= .returned (r.den lam0)∧Below W.heap.size W W':=by
 have hl:∀i L,(sLocs l)[i]? =some L→sLam l (0+i)=L∧sCaps l (0+i)=L.c:=fun i L hi=>by
  simp[sLam,sCaps,List.getD,hi]
 obtain⟨h1,h2⟩:=sArgs_den kd l 0 (sCaps l) (sLam l) hok hl
 rw[←h1,←dens_lam (sLam l) pre hp,←dens_lam (sLam l) post hq,←List.map_append,←List.map_append,←den_lam hr (sLam l)]
 refine law_calls hT hf hb hg (sLam l) (l:=sBlks kd l) ?_ (fun x hx k hk=> ?_) hr (hrun h2)
 ·intro i b hb
  obtain⟨h3,h4,L,h5,fr,pre,C,h6,h7,h8⟩:=sBlks_at hok i b hb
  have e:sLam l i=L:=by simp[sLam,List.getD,h5]
  rw[e]
  exact⟨h3,h4,fr,pre,C,h6,h7,h8 _⟩
 ·rcases List.mem_append.1 hx with hx | hx
  ·rw[hp x hx] at hk;cases hk
  ·rcases List.mem_append.1 hx with hx | hx
   ·have:=locArgs_ids h2 x hx k hk;simpa [sBlks] using this
   ·rw[hq x hx] at hk;cases hk
end Go.Proofs.YtbfndladaldajaaGreatDoor

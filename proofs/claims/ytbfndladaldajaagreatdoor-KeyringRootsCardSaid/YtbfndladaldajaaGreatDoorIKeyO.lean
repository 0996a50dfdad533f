/- Keys, certificates and roots among a law's arguments; the three listed variables, as the walks ask for them. -/
import Derived.Test.YtbfndladaldajaaGreatDoorIKeyK
import Derived.Test.YtbfndladaldajaaGreatDoorIOpenFlat
import Derived.Test.YtbfndladaldajaaGreatDoorIMW
import Derived.Test.YtbfndladaldajaaGreatDoorIEDoor
namespace Go.Proofs.YtbfndladaldajaaGreatDoor
open Go Go.Eng Go.ChangeShapes Go.WideShapes Go.ChangeAt Go.RowKit
set_option linter.unusedVariables false
set_option maxRecDepth 100000
theorem wfK_split:∀{k1:List IntKind} {x1:List Int} {k2:List IntKind} {x2:List Int},x1.length=k1.length→WfK (k1++k2) (x1++x2)→WfK k1 x1∧WfK k2 x2
 | [],[],_,_,_,h=>⟨trivial,h⟩
 | k::ks,x::xs,k2,x2,hl,h=>⟨⟨h.1,(wfK_split (by simpa using hl) h.2).1⟩,(wfK_split (by simpa using hl) h.2).2⟩
 | [],x::xs,_,_,hl,_=>by cases hl
 | k::ks,[],_,_,hl,_=>by cases hl
theorem wfK_rep {k:IntKind}:∀{n:Nat} {xs:List Int},xs.length=n→WfK (List.replicate n k) xs→∀z∈xs,(Lit.int k z).wf=true
 | 0,[],_,_,z,hz=>by cases hz
 | n+1,x::xs,hl,h,z,hz=>by
  rcases List.mem_cons.1 hz with rfl | hz
  ·exact h.1
  ·exact wfK_rep (by simpa using hl) h.2 z hz
theorem part_len {zs:List Int} (a b:Nat) (h:zs.length=a+b):∃x y:List Int,zs=x++y∧x.length=a∧y.length=b:=⟨zs.take a,zs.drop a,(List.take_append_drop a zs).symm,by rw[List.length_take];omega,by rw[List.length_drop];omega⟩
theorem row32 {zs:List Int} (hl:zs.length=32) (h:WfK (List.replicate 32 .u8) zs):∃b:B32,zs=b.to∧BOk b:=b32_of_list zs hl (wfK_rep hl h)
theorem hi_ok64 {D:B64} (h:∀i,0≤D.at i∧D.at i<256):BOk (hi64 D):=by
 intro i
 unfold hi64 B32.at
 split
 ·exact h 32
 ·exact h 33
 ·exact h 34
 ·exact h 35
 ·exact h 36
 ·exact h 37
 ·exact h 38
 ·exact h 39
 ·exact h 40
 ·exact h 41
 ·exact h 42
 ·exact h 43
 ·exact h 44
 ·exact h 45
 ·exact h 46
 ·exact h 47
 ·exact h 48
 ·exact h 49
 ·exact h 50
 ·exact h 51
 ·exact h 52
 ·exact h 53
 ·exact h 54
 ·exact h 55
 ·exact h 56
 ·exact h 57
 ·exact h 58
 ·exact h 59
 ·exact h 60
 ·exact h 61
 ·exact h 62
 ·exact h 63
theorem row64 {zs:List Int} (hl:zs.length=64) (h:WfK (List.replicate 64 .u8) zs):∃b:B64,zs=b.to∧BOk (hi64 b):=by
 obtain⟨b,hb,h⟩:=b64_of_list zs hl (wfK_rep hl h)
 exact⟨b,hb,hi_ok64 h⟩
theorem u64_wf {n:Int} (h:(Lit.int .u64 n).wf=true):U64 n:=by
 simp[Lit.wf,IntKind.min,IntKind.max,IntKind.signed,IntKind.bits] at h
 exact⟨h.1,by omega⟩
def kKeys:List IntKind:= .u64::(List.replicate 32 .u8++List.replicate 32 .u8)
def kRoot:List IntKind:= .u64:: .u64:: .u64::(List.replicate 32 .u8++(List.replicate 32 .u8++(List.replicate 32 .u8++List.replicate 64 .u8)))
theorem keys_of {zs:List Int} (hl:zs.length=65) (h:WfK kKeys zs):∃k:Keys,zs=k.to∧KOk k:=by
 match zs,hl with
 | g::r,hl=>
  obtain⟨x,y,rfl,hx,hy⟩:=part_len (zs:=r) 32 32 (by simpa using hl)
  obtain⟨h1,h2⟩:=h
  obtain⟨h2,h3⟩:=wfK_split (by rw[hx];rfl) h2
  obtain⟨a,rfl,ha⟩:=row32 hx h2
  obtain⟨b,rfl,hb⟩:=row32 hy h3
  exact⟨⟨g,a,b⟩,rfl,u64_wf h1,ha,hb⟩
def ROk (r:Root):Prop:=U64 r.ep∧U64 r.kind∧U64 r.gen∧BOk r.prev∧BOk r.hash∧BOk r.link∧BOk (hi64 r.sig)
theorem root_of {zs:List Int} (hl:zs.length=163) (h:WfK kRoot zs):∃r:Root,zs=r.to∧ROk r:=by
 match zs,hl with
 | e::k::g::r,hl=>
  obtain⟨h1,h2,h3,h4⟩:=h
  obtain⟨x,y,rfl,hx,hy⟩:=part_len (zs:=r) 32 128 (by simpa using hl)
  obtain⟨q1,h5⟩:=wfK_split (by rw[hx];rfl) h4
  obtain⟨x',y',rfl,hx',hy'⟩:=part_len (zs:=y) 32 96 hy
  obtain⟨q2,h6⟩:=wfK_split (by rw[hx'];rfl) h5
  obtain⟨x'',y'',rfl,hx'',hy''⟩:=part_len (zs:=y') 32 64 hy'
  obtain⟨q3,h7⟩:=wfK_split (by rw[hx''];rfl) h6
  obtain⟨a,rfl,ha⟩:=row32 hx q1
  obtain⟨b,rfl,hb⟩:=row32 hx' q2
  obtain⟨c,rfl,hc⟩:=row32 hx'' q3
  obtain⟨s,rfl,hs⟩:=row64 hy'' h7
  exact⟨⟨e,k,g,a,b,c,s⟩,rfl,u64_wf h1,u64_wf h2,u64_wf h3,ha,hb,hc,hs⟩
def zeroKeys:Keys:=⟨0,zeroB,zeroB⟩
def zeroRoot:Root:=⟨0,0,0,zeroB,zeroB,zeroB,zeroC⟩
section
variable {H:Type} {enc:TypeId × Value→H} {w:World} {base:Nat} {spare:Nat→Bool} {held:Bool} {r:Reach} {b0:Nat} {v:Value} {d:DataW H} {ps:List MemPlace}
theorem open_keys (hval:Value.okWide Tryz.prog w r b0 25 v) (hd:DataW.Trod enc Tryz.prog w base spare held 25 v d ps):∃k:Keys,v=(bA.enc k).den (fun _=>(⟨0,0,0⟩:Eng.Loc))∧ps=[]∧KOk k:=by
 obtain⟨zs,hl,hv,hp,hw⟩:=open_flat Tryz.underlying25 (ks:=kKeys) (by kernel_rfl) hval hd
 obtain⟨k,rfl,hk⟩:=keys_of hl hw
 exact⟨k,by rw[hv];rfl,hp,hk⟩
theorem open_root (hval:Value.okWide Tryz.prog w r b0 67 v) (hd:DataW.Trod enc Tryz.prog w base spare held 67 v d ps):∃k:Root,v=(aW.enc k).den (fun _=>(⟨0,0,0⟩:Eng.Loc))∧ps=[]∧ROk k:=by
 obtain⟨zs,hl,hv,hp,hw⟩:=open_flat Tryz.underlying67 (ks:=kRoot) (by kernel_rfl) hval hd
 obtain⟨k,rfl,hk⟩:=root_of hl hw
 exact⟨k,by rw[hv];rfl,hp,hk⟩
end
abbrev laid3:List (String × DataW Unit):=[("beacon/scalar.order",Rows.laid_beacon_scalar_order),("beacon/sha2.k256",Rows.laid_beacon_sha2_k256),("beacon/sha2.k512",Rows.laid_beacon_sha2_k512)]
theorem g256:Tryz.prog.globalNamed "beacon/sha2.k256" =some 2:=by kernel_rfl
theorem t256:(Tryz.prog.globals[2]?).map (·.type)=some 124:=by kernel_rfl
theorem laid256:(Rows.laid_beacon_sha2_k256:DataW Unit)=Lib.tabData .u32 S3.k256L:=by kernel_rfl
theorem cells256:Tryz.prog.cellsOf 124=64:=by kernel_rfl
theorem cellsU32:Tryz.prog.cellsOf 122=1:=by kernel_rfl
theorem door_met3 (os:Os) (args:Array Value):laidMetH Tryz.prog laid3 ((World.doorLaid Tryz.prog 400 os).forCall (fun _ _=>0) ⟨#[],args,[]⟩).memory:=
 laidMetH_of_parts3 (fuel:=8) (laidMet_of_run' 8 (by kernel_rfl) (by kernel_rfl)) (by kernel_rfl) (by kernel_rfl)
theorem tabs_of_laid {W:World} (h:laidMet Tryz.prog laid3 W):Lib.TabIs Tryz.prog W "beacon/sha2.k256" .u32 S3.k256L∧Lib.TabIs Tryz.prog W "beacon/sha2.k512" .u64 k512L:=by
 unfold laid3 at h
 rw[laid512,laid256] at h
 obtain⟨ps,⟨_,_,_,_,_,_,_,_,_,_,⟨g1,t1,cs1,f1,p1,q1,hg1,ht1,hv1,hd1,⟨g2,t2,cs2,f2,p2,q2,hg2,ht2,hv2,hd2,_,_⟩,_⟩,_⟩,_⟩:=h
 obtain rfl:=Option.some.inj (g256.symm.trans hg1)
 obtain rfl:=Option.some.inj (t256.symm.trans ht1)
 obtain rfl:=Option.some.inj (g512.symm.trans hg2)
 obtain rfl:=Option.some.inj (t512.symm.trans ht2)
 constructor
 ·unfold Lib.TabIs
  rw[hv1,←Lib.cells_of_tab Tryz.underlying124 Tryz.underlying122 cellsU32 cells256 hd1]
 ·unfold Lib.TabIs
  rw[hv2,←Lib.cells_of_tab Tryz.underlying159 Tryz.underlying23 cellsU64 cells512 hd2]
theorem glob_of_laid3 {W:World} (h:laidMet Tryz.prog laid3 W):GlobOk G3 W:=by
 obtain⟨h3,h2⟩:=tabs_of_laid h
 unfold laid3 at h
 rw[laidOrd] at h
 have h1:=Lib.tabIs_of_head gord tord Tryz.underlying165 Tryz.underlying23 cellsU64 cellsOrd h
 intro g cs hg
 unfold G3 at hg
 split at hg<;>cases hg
 ·obtain⟨q1,ty,fr,q2⟩:=row_of_tab gord h1
  refine⟨q1,dz _ _,ty,fr,?_⟩
  rw[q2]
  congr 2
 ·obtain⟨q1,ty,fr,q2⟩:=row_of_tab g512 h2
  refine⟨q1,dz _ _,ty,fr,?_⟩
  rw[q2]
  congr 2
 ·obtain⟨q1,ty,fr,q2⟩:=row_of_tab g256 h3
  refine⟨q1,dz _ _,ty,fr,?_⟩
  rw[q2]
  congr 2
end Go.Proofs.YtbfndladaldajaaGreatDoor

/- Package wire: Account: its walk (a range over a text). -/
import Derived.Test.YthlmepolmemejaaGreatDoorLFo
import Derived.Test.YthlmepolmemejaaGreatDoorLTy
import Derived.LoopTactic
import Derived.Laws.RangeString
import Derived.Laws.Strings
import Derived.Laws.Strings2
import Derived.Laws.Strings3
import Derived.Laws.RangeAny
import Derived.Test.YthlmepolmemejaaGreatDoorLMA
set_option linter.unusedSimpArgs false
set_option linter.unusedVariables false
namespace Go.Proofs.YthlmepolmemejaaGreatDoor
open Go Go.Eng Go.RowKit
set_option maxRecDepth 100000
theorem pO (n:Nat) (h:n≤140737488355328):Room Tryz.prog 5 n:=by
 have h1:(Tryz.prog.info? 5).map (·.bytes)=some 1:=by kernel_rfl
 cases hq:Tryz.prog.info? 5 with
 | none=>rw[hq] at h1;cases h1
 | some j=>
  rw[hq] at h1
  have:j.bytes=1:=by simpa using h1
  exact⟨j,hq,by rw[this];omega,by omega⟩
theorem wu8 (n:Int):IntKind.u8.wrap n=n%256:=by
 rw[IntKind.wrap_u8]
theorem jR (n:Int) (h0: -9223372036854775808≤n) (h1:n<9223372036854775808):IntKind.i64.wrap n=n:=by rw[IntKind.wrap_i64];omega
theorem wu32 (n:Int):IntKind.u32.wrap n=n%4294967296:=by
 rw[IntKind.wrap_u32]
def b4 (v:Int):List Int:=[IntKind.u8.wrap (v.fdiv 16777216),IntKind.u8.wrap (v.fdiv 65536),IntKind.u8.wrap (v.fdiv 256),IntKind.u8.wrap v]
theorem lu (v:Int):(b4 v).length=4:=rfl
namespace rfour
variable {G:Glob}
noncomputable abbrev fn:=Tryz.f73
noncomputable def body:Code:=bZ fn
noncomputable def e (G:Glob) (v:Int):St:=dz ([]:Cons Tryz.prog G) tys 100 body ⟨aH fn [.o (.a (.v (.int .i64 v)))],[],[]⟩
theorem ex (v:Int):exec ([]:Cons Tryz.prog G) tys 100 body ⟨aH fn [.o (.a (.v (.int .i64 v)))],[],[]⟩=some (.ret,⟨(e G v).tm,(e G v).mem,[]⟩,[]):=by kernel_rfl
theorem res (v:Int):eRes tys (e G v).tm (fun k=>(e G v).mem[k]?) fn.results.toList=some [.a (.slc 0 0 4 4)]:=by kernel_rfl
theorem row (v:Int):(e G v).mem[0]? =some ⟨true,5,.lit ((b4 v).map (aB .u8))⟩:=by kernel_rfl
def spec:List aV→Option (SV × dh × Cst)
 | [.val (.o (.a (.v (.int .i64 v))))]=>some (.o (.a (.slc 0 0 4 4)),.new 5 (.lit ((b4 v).map (aB .u8))),[])
 | _=>none
end rfour
noncomputable def rfour_con {G:Glob}:Con Tryz.prog G:=Con.parts ah 73 rfour.fn Tryz.func73 (by kernel_rfl) (c:=rfour.body) (by kernel_rfl) [.val] rfour.spec
 (fun ps r e p h hp=>by
  unfold rfour.spec at h
  split at h<;>cases h
  exact⟨rfl,fun b hb=>by cases hb⟩)
 (fun ps r e p cap h hp hi=>by
  unfold rfour.spec at h
  split at h<;>cases h
  exact Runs.aQ ah mixed (rfour.ex _) trivial (aN.ret (rfour.res _) ⟨0,rfl,rfour.row _⟩))
namespace four
variable {G:Glob}
noncomputable abbrev fn:=Tryz.f93
noncomputable def body:Code:=bZ fn
abbrev iv (v:Int):SV:= .o (.a (.v (.int .i64 v)))
abbrev nilV:SV:= .o (.a (.v (.slice none 0 0)))
noncomputable def ne (G:Glob) (v:Int):St:=dz ([]:Cons Tryz.prog G) tys 100 body ⟨aH fn [nilV,iv v],[],[]⟩
theorem nex (v:Int):exec ([]:Cons Tryz.prog G) tys 100 body ⟨aH fn [nilV,iv v],[],[]⟩=some (.ret,⟨(ne G v).tm,(ne G v).mem,[]⟩,[0+4≤4,1≤4,Room Tryz.prog 5 4]):=by kernel_rfl
theorem nres (v:Int):eRes tys (ne G v).tm (fun k=>(ne G v).mem[k]?) fn.results.toList=some [.a (.slg 1 4)]:=by kernel_rfl
theorem nrow (v:Int):(ne G v).mem[1]? =some ⟨true,5,.gro .u8 (b4 v) 4 none⟩:=by kernel_rfl
def nspec:List aV→Option (SV × dh × Cst)
 | [.val (.o (.a (.v (.slice none 0 0)))),.val (.o (.a (.v (.int .i64 v))))]=>some (.o (.a (.slg 0 4)),.new 5 (.gro .u8 (b4 v) 4 none),[])
 | _=>none
noncomputable def is (xs:List Int) (ty:TypeId) (n lo:Nat) (v:Int):St:=⟨aH fn [.o (.a (.slg 0 n)),iv v],[⟨true,ty,.gro .u8 xs lo none⟩],[]⟩
noncomputable def ie (G:Glob) (xs:List Int) (ty:TypeId) (n lo:Nat) (v:Int):St:=dz ([]:Cons Tryz.prog G) tys 100 body (is xs ty n lo v)
section
variable (xs:List Int) (ty:TypeId) (n lo:Nat) (v:Int)
theorem iex:exec ([]:Cons Tryz.prog G) tys 100 body (is xs ty n lo v)=some (.ret,⟨(ie G xs ty n lo v).tm,(ie G xs ty n lo v).mem,[]⟩,[0+4≤4,n=xs.length,n+4≤lo]):=by kernel_rfl
theorem ires:eRes tys (ie G xs ty n lo v).tm (fun k=>(ie G xs ty n lo v).mem[k]?) fn.results.toList=some [.a (.slg 0 (n+4))]:=by kernel_rfl
theorem irow:(ie G xs ty n lo v).mem[0]? =some ⟨true,ty,.gro .u8 (xs++b4 v) lo none⟩:=by kernel_rfl
end
noncomputable def gs (xs:List Int) (ty:TypeId) (n lo h:Nat) (v:Int):St:=⟨aH fn [.o (.a (.slg 0 n)),iv v],[⟨false,ty,.gro .u8 xs lo (some h)⟩],[]⟩
noncomputable def ge (G:Glob) (xs:List Int) (ty:TypeId) (n lo h:Nat) (v:Int):St:=dz ([]:Cons Tryz.prog G) tys 100 body (gs xs ty n lo h v)
section
variable (xs:List Int) (ty:TypeId) (n lo h:Nat) (v:Int)
theorem gex:exec ([]:Cons Tryz.prog G) tys 100 body (gs xs ty n lo h v)=some (.ret,⟨(ge G xs ty n lo h v).tm,(ge G xs ty n lo h v).mem,[]⟩,[0+4≤4,n=xs.length,h≤n+4,Room Tryz.prog 5 (n+4)]):=by kernel_rfl
theorem gres:eRes tys (ge G xs ty n lo h v).tm (fun k=>(ge G xs ty n lo h v).mem[k]?) fn.results.toList=some [.a (.slg 2 (n+4))]:=by kernel_rfl
theorem grow:(ge G xs ty n lo h v).mem[2]? =some ⟨true,5,.gro .u8 (xs++b4 v) (n+4) none⟩:=by kernel_rfl
end
noncomputable def bs (xs:List Int) (ty:TypeId) (o n c:Nat) (v:Int):St:=⟨aH fn [.o (.a (.sld 0 0 o n c)),iv v],[⟨true,ty,.run .u8 xs⟩],[]⟩
noncomputable def be (G:Glob) (xs:List Int) (ty:TypeId) (o n c:Nat) (v:Int):St:=dz ([]:Cons Tryz.prog G) tys 100 body (bs xs ty o n c v)
section
variable (xs:List Int) (ty:TypeId) (o n c:Nat) (v:Int)
theorem bex:exec ([]:Cons Tryz.prog G) tys 100 body (bs xs ty o n c v)=some (.ret,⟨(be G xs ty o n c v).tm,(be G xs ty o n c v).mem,[]⟩,[0+4≤4,n+4≤c,o+n+4≤xs.length]):=by kernel_rfl
theorem bres:eRes tys (be G xs ty o n c v).tm (fun k=>(be G xs ty o n c v).mem[k]?) fn.results.toList=some [.a (.sld 0 0 o (n+4) c)]:=by kernel_rfl
theorem brow:(be G xs ty o n c v).mem[0]? =some ⟨true,ty,.run .u8 (bq (o+n) (b4 v) 0 xs)⟩:=by kernel_rfl
end
def bspec:List aV→Option (SV × dh × Cst)
 | [.buf .u8 ty xs l o n c,.val (.o (.a (.v (.int .i64 v))))]=>some (.o (.a (.sld 0 0 o (n+4) c)),.upd ty (.run .u8 (bq (o+n) (b4 v) 0 xs)),[n+4≤c,o+n+4≤xs.length])
 | _=>none
noncomputable def nilC {G:Glob}:Con Tryz.prog G:=Con.parts ah 93 fn Tryz.func93 (by kernel_rfl) (c:=body) (by kernel_rfl) [.val,.val] nspec
 (fun ps r e p h hp=>by
  unfold nspec at h
  split at h<;>cases h
  exact⟨rfl,fun b hb=>by cases hb⟩)
 (fun ps r e p cap h hp hi=>by
  unfold nspec at h
  split at h<;>cases h
  exact Runs.aQ ah mixed (nex _) ⟨by omega,by omega,pO _ (by omega),trivial⟩ (aN.ret (nres _) ⟨1,rfl,nrow _⟩))
theorem nil_fr {G:Glob}:∀m fr fr' args,(nilC (G:=G)).spec m fr args=none→(nilC (G:=G)).spec m fr' args=none:=fun _ _ _ _ h=>Con.parts_fr _ _ _ _ _ _ _ _ _ _ _ _ _ _ h
noncomputable def bufC {G:Glob}:Con Tryz.prog G:=Con.parts ah 93 fn Tryz.func93 (by kernel_rfl) (c:=body) (by kernel_rfl) [.buf .u8,.val] bspec
 (fun ps r e p h hp=>by
  unfold bspec at h
  split at h<;>cases h
  exact⟨(fun k hk=>by simpa [SV.ids,SV1.ids,Atom.ids] using hk),rfl,⟨_,rfl,rfl,rfl⟩,(fun i b h=>by simp[bG,aV.blk] at h),fun kd ty xs o n c rest h=>by cases h;exact⟨_,rfl,bE _ _ _ _⟩⟩)
 (fun ps r e p cap h hp hi=>by
  unfold bspec at h
  split at h<;>cases h
  exact Runs.aQ ah mixed (bex _ _ _ _ _ _) ⟨by omega,hp.1,hp.2.1,trivial⟩ (aN.ret (bres _ _ _ _ _ _) ⟨rfl,brow _ _ _ _ _ _⟩))
theorem buf_fr {G:Glob}:∀m fr fr' args,(bufC (G:=G)).spec m fr args=none→(bufC (G:=G)).spec m fr' args=none:=fun _ _ _ _ h=>Con.parts_fr _ _ _ _ _ _ _ _ _ _ _ _ _ _ h
def inD:Dec Tryz.prog GroA:=Dec.gro Tryz.prog .u8 true (fun x=> .o (.a (.slg 0 (x.n+4)))) (fun x=> .upd x.ty (.gro .u8 (x.xs++b4 x.v) x.lo none)) (fun x=>[x.k= .i64,x.n=x.xs.length,x.n+4≤x.lo])
 (fun x=>⟨rfl,rfl,rfl,fun k hk=>by simpa [SV.ids,SV1.ids,Atom.ids] using hk⟩)
noncomputable def groC {G:Glob}:Con Tryz.prog G:=Con.hand ah 93 fn Tryz.func93 (by kernel_rfl) (c:=body) (by kernel_rfl) inD
 (fun x hc hi=>by
  obtain⟨xs,n,lo,hi',ty,k,v⟩:=x
  obtain⟨h1,h2,h3,_⟩:=hc
  have hi:hi'.isNone=true:=hi
  cases hi' with
  | some h=>cases hi
  | none=>
   cases h1
   exact Runs.aQ ah mixed (iex xs ty n lo v) ⟨by omega,h2,h3,trivial⟩ (aN.ret (ires xs ty n lo v) ⟨rfl,irow xs ty n lo v⟩))
theorem gro_fr {G:Glob}:∀m fr fr' args,(groC (G:=G)).spec m fr args=none→(groC (G:=G)).spec m fr' args=none:=fun _ _ _ _ h=>Con.xU _ _ _ _ _ _ _ _ _ _ _ _ h
def bsD:Dec Tryz.prog GroA:=Dec.gro Tryz.prog .u8 false (fun x=> .o (.a (.slg 0 (x.n+4)))) (fun x=> .new 5 (.gro .u8 (x.xs++b4 x.v) (x.n+4) none)) (fun x=>[x.k= .i64,x.n=x.xs.length,∀h,x.hi=some h→h≤x.n+4,x.n+4≤140737488355328])
 (fun x=>⟨rfl,rfl⟩)
noncomputable def bsC {G:Glob}:Con Tryz.prog G:=Con.hand ah 93 fn Tryz.func93 (by kernel_rfl) (c:=body) (by kernel_rfl) bsD
 (fun x hc hi=>by
  obtain⟨xs,n,lo,hi',ty,k,v⟩:=x
  obtain⟨h1,h2,h3,h4,_⟩:=hc
  have hi:hi'.isNone=false:=hi
  cases hi' with
  | none=>cases hi
  | some h=>
   cases h1
   exact Runs.aQ ah mixed (gex xs ty n lo h v) ⟨by omega,h2,h3 h rfl,pO _ h4,trivial⟩ (aN.ret (gres xs ty n lo h v) ⟨2,rfl,grow xs ty n lo h v⟩))
end four
noncomputable def four_con {G:Glob}:Con Tryz.prog G:=Con.or four.nilC (Con.or four.bufC (Con.or four.groC four.bsC rfl four.gro_fr) rfl four.buf_fr) rfl four.nil_fr
def num8 (v:Int):List Int:=[IntKind.u8.wrap (v.fdiv 72057594037927936),IntKind.u8.wrap (v.fdiv 281474976710656),IntKind.u8.wrap (v.fdiv 1099511627776),IntKind.u8.wrap (v.fdiv 4294967296),IntKind.u8.wrap (v.fdiv 16777216),IntKind.u8.wrap (v.fdiv 65536),IntKind.u8.wrap (v.fdiv 256),IntKind.u8.wrap (v.fdiv 1)]
def numH (v:Int):Int:=IntKind.i64.wrap (v.fdiv 4294967296)
def numL (v:Int):Int:=IntKind.i64.wrap (IntKind.u32.wrap v)
theorem num8_eq {v:Int} (h0:0≤v) (h1:v<18446744073709551616):b4 (numH v)++b4 (numL v)=num8 v:=by
 have e1:numH v=v/4294967296:=by
  unfold numH
  rw[Int.fdiv_eq_ediv_of_nonneg _ (by decide),jR _ (by omega) (by omega)]
 have e2:numL v=v%4294967296:=by
  unfold numL
  rw[wu32,jR _ (by omega) (by omega)]
 unfold b4 num8
 rw[e1,e2]
 simp only[Int.fdiv_eq_ediv_of_nonneg _ (show(0:Int)≤16777216 by decide),Int.fdiv_eq_ediv_of_nonneg _ (show(0:Int)≤65536 by decide),Int.fdiv_eq_ediv_of_nonneg _ (show(0:Int)≤256 by decide),Int.fdiv_eq_ediv_of_nonneg _ (show(0:Int)≤72057594037927936 by decide),Int.fdiv_eq_ediv_of_nonneg _ (show(0:Int)≤281474976710656 by decide),Int.fdiv_eq_ediv_of_nonneg _ (show(0:Int)≤1099511627776 by decide),Int.fdiv_eq_ediv_of_nonneg _ (show(0:Int)≤4294967296 by decide),Int.fdiv_eq_ediv_of_nonneg _ (show(0:Int)≤1 by decide),wu8,List.cons_append,List.nil_append,List.cons.injEq,and_true]
 exact⟨by omega,by omega,by omega,trivial,by omega,by omega,by omega,by omega⟩
namespace rnum
variable {G:Glob}
noncomputable abbrev fn:=Tryz.f41
noncomputable def body:Code:=bZ fn
noncomputable def e (G:Glob) (v:Int):St:=dz ([]:Cons Tryz.prog G) tys 100 body ⟨aH fn [.o (.a (.v (.int .u64 v)))],[],[]⟩
theorem ex (v:Int):exec ([]:Cons Tryz.prog G) tys 100 body ⟨aH fn [.o (.a (.v (.int .u64 v)))],[],[]⟩=some (.ret,⟨(e G v).tm,(e G v).mem,[]⟩,[(0:Int)≤8,(8:Int)≤8,Room Tryz.prog 5 8,(0:Int)≤0,(0:Int)<8,(1:Nat)≤8,(0:Int)≤1,(1:Int)<8,(2:Nat)≤8,(0:Int)≤2,(2:Int)<8,(3:Nat)≤8,(0:Int)≤3,(3:Int)<8,(4:Nat)≤8,(0:Int)≤4,(4:Int)<8,(5:Nat)≤8,(0:Int)≤5,(5:Int)<8,(6:Nat)≤8,(0:Int)≤6,(6:Int)<8,(7:Nat)≤8,(0:Int)≤7,(7:Int)<8,(8:Nat)≤8]):=by kernel_rfl
theorem res (v:Int):eRes tys (e G v).tm (fun k=>(e G v).mem[k]?) fn.results.toList=some [.a (.sld 0 0 0 8 8)]:=by kernel_rfl
theorem row (v:Int):(e G v).mem[0]? =some ⟨true,5,.run .u8 (num8 v)⟩:=by kernel_rfl
def spec:List aV→Option (SV × dh × Cst)
 | [.val (.o (.a (.v (.int .u64 v))))]=>some (.o (.a (.sld 0 0 0 8 8)),.new 5 (.run .u8 (num8 v)),[])
 | _=>none
end rnum
noncomputable def rnum_con {G:Glob}:Con Tryz.prog G:=Con.parts ah 41 rnum.fn Tryz.func41 (by kernel_rfl) (c:=rnum.body) (by kernel_rfl) [.val] rnum.spec
 (fun ps r e p h hp=>by
  unfold rnum.spec at h
  split at h<;>cases h
  exact⟨rfl,fun b hb=>by cases hb⟩)
 (fun ps r e p cap h hp hi=>by
  unfold rnum.spec at h
  split at h<;>cases h
  exact Runs.aQ ah mixed (rnum.ex _) ⟨by decide,by decide,pO _ (by omega),by decide,by decide,by decide,by decide,by decide,by decide,by decide,by decide,by decide,by decide,by decide,by decide,by decide,by decide,by decide,by decide,by decide,by decide,by decide,by decide,by decide,by decide,by decide,by decide,trivial⟩ (aN.ret (rnum.res _) ⟨0,rfl,rnum.row _⟩))
namespace num
variable {G:Glob}
noncomputable abbrev fn:=Tryz.f53
noncomputable def body:Code:=bZ fn
noncomputable def Γ:Cons Tryz.prog G:=[four_con]
noncomputable def R1:Code:=cs1 (bY 1 body)
noncomputable def T:Code:=cs2 (bY 1 body)
noncomputable def i1:Nat:=match R1 with | .region i _ _=>i | _=>0
theorem fV:bY 1 body= .seq (.region i1 (opsOf R1) false) T:=by kernel_rfl
def M0 (v:Int):List (Option SV):=aJ 11 0 [(0,.o (.a (.v (.int .u64 v))))]
def M1 (v:Int):List (Option SV):=aJ 11 0 [(0,.o (.a (.v (.int .u64 v)))),(6,.o (.a (.slg 0 4)))]
def M2 (b:Nat):List (Option SV):=aJ 11 0 [(2,.o (.a (.slg b 8)))]
section
variable (v:Int)
def m1 (lo:Nat) (hi:Option Nat):List Blk:=[⟨true,5,.gro .u8 (b4 (numH v)) lo hi⟩]
def mI:List Blk:=[⟨true,5,.gro .u8 (b4 (numH v)++b4 (numL v)) 8 none⟩]
def mG:List Blk:=[⟨true,5,.gro .u8 (b4 (numH v)) 4 (some 8)⟩,⟨true,5,.gro .u8 (b4 (numH v)++b4 (numL v)) 8 none⟩]
theorem jy:idsIn 0 (M0 v) []=true:=by kernel_rfl
theorem eT (lo:Nat) (hi:Option Nat):oI (M1 v) (m1 v lo hi):=by delta oI;kernel_rfl
theorem idsI:oI (M2 0) (mI v):=by delta oI;kernel_rfl
theorem idsG:oI (M2 1) (mG v):=by delta oI;kernel_rfl
theorem s0:outX ([]:List Blk).length (M0 v) (exec (Γ (G:=G)) tys 100 (dU 1 body) ⟨aH fn [.o (.a (.v (.int .u64 v)))],[],[]⟩)=some (.normal,live (M0 v),(M0 v).length,[],[]):=by kernel_rfl
theorem p1 (g:Nat→SV):oF (m1 v 4 none).length (M1 v) (dW (Γ (G:=G)) tys (opsOf R1).toList ((opsOf R1).toList.take 4) ⟨fill g 0 (M0 v),[],[]⟩)=some (live (M1 v),(M1 v).length,m1 v 4 none,[]):=by kernel_rfl
theorem pI (g:Nat→SV):oT (Γ (G:=G)) R1 4 5 (fill g 0 (M1 v)) (m1 v 8 none) [] (M2 0) (mI v) [IntKind.i64= .i64,4=(b4 (numH v)).length,4+4≤8]:=by delta oT;kernel_rfl
theorem pG (g:Nat→SV):oT (Γ (G:=G)) R1 4 5 (fill g 0 (M1 v)) (m1 v 4 (some 8)) [] (M2 1) (mG v) [IntKind.i64= .i64,4=(b4 (numH v)).length,∀h,some 8=some h→h≤4+4,4+4≤140737488355328]:=by delta oT;kernel_rfl
end
theorem nil5:((opsOf R1).toList.drop 4).drop 5=[]:=by kernel_rfl
theorem T_eq:T= .ret:=by kernel_rfl
theorem resI (v:Int) (g:Nat→SV):eRes tys (fill g 0 (M2 0)) (fun k=>(mI v)[k]?) fn.results.toList=some [.a (.slg 0 8)]:=by kernel_rfl
theorem resG (v:Int) (g:Nat→SV):eRes tys (fill g 0 (M2 1)) (fun k=>(mG v)[k]?) fn.results.toList=some [.a (.slg 1 8)]:=by kernel_rfl
theorem walk (v:Int):aK Tryz.prog G 0 body (aH fn [.o (.a (.v (.int .u64 v)))]) [] (aN tys fn (bA (.o (.a (.slg 0 8))) (.new 5 (.gro .u8 (b4 (numH v)++b4 (numL v)) 8 none)))):=by
 refine Runs.bS ah mixed 1 (s0 v) trivial (jy v) rfl fun g=> ?_
 rw[fV]
 refine Runs.seq (Runs.region ?_)
 refine bg.au ah 4 (p1 v g) trivial (eT v 4 none) rfl fun g=> ?_
 refine bg.room 0 8 (own:=true) (ty:=5) (kd:= .u8) (xs:=b4 (numH v)) (lo:=4) rfl ?_ ?_
 ·refine bg.au ah 5 (pI v g) ⟨rfl,rfl,by omega,trivial⟩ (idsI v) rfl fun g=> ?_
  rw[nil5]
  refine bg.nil ?_
  show aK _ _ _ T _ _ _
  rw[T_eq]
  exact Runs.aQ (Γ:=Γ) (n:=1) (orc:=[]) ah mixed rfl trivial (aN.ret (resI v g) ⟨0,rfl,rfl⟩)
 ·refine bg.au ah 5 (pG v g) ⟨rfl,rfl,fun h hh=>by cases hh;omega,by omega,trivial⟩ (idsG v) rfl fun g=> ?_
  rw[nil5]
  refine bg.nil ?_
  show aK _ _ _ T _ _ _
  rw[T_eq]
  exact Runs.aQ (Γ:=Γ) (n:=1) (orc:=[]) ah mixed rfl trivial (aN.ret (resG v g) ⟨1,rfl,rfl⟩)
def spec:List aV→Option (SV × dh × Cst)
 | [.val (.o (.a (.v (.int .u64 v))))]=>some (.o (.a (.slg 0 8)),.new 5 (.gro .u8 (b4 (numH v)++b4 (numL v)) 8 none),[])
 | _=>none
end num
noncomputable def num_con {G:Glob}:Con Tryz.prog G:=Con.parts ah 53 num.fn Tryz.func53 (by kernel_rfl) (c:=num.body) (by kernel_rfl) [.val] num.spec
 (fun ps r e p h hp=>by
  unfold num.spec at h
  split at h<;>cases h
  exact⟨rfl,fun b hb=>by cases hb⟩)
 (fun ps r e p cap h hp hi=>by
  unfold num.spec at h
  split at h<;>cases h
  exact num.walk _)
def encR:List (List Int)→List Int
 | []=>[]
 | y::r=>b4 (y.length:Int)++(y++encR r)
def encB (ls:List (List Int)):List Int:=b4 (ls.length:Int)++encR ls
def encL:List (List Int)→Nat
 | []=>0
 | y::r=>4+y.length+encL r
def fC (ls:List (List Int)):Nat:=4+encL ls
theorem encR_len:∀ls,(encR ls).length=encL ls
 | []=>rfl
 | y::r=>by simp only[encR,encL,List.length_append,encR_len r,lu];omega
theorem encB_len (ls:List (List Int)):(encB ls).length=fC ls:=by simp only[encB,fC,List.length_append,encR_len,lu]
theorem put_buf (D ys:List Int) (r:Nat):bq (0+D.length) ys 0 (D++List.replicate (ys.length+r) 0)=(D++ys)++List.replicate r 0:=by
 rw[jr _ _ _ (by simp only[List.length_append,List.length_replicate];omega),Nat.zero_add,List.take_left,←List.drop_drop,List.drop_left,List.append_assoc]
 congr 1
 rw[List.drop_replicate]
 congr 1
 congr 1
 omega
def putA:List (Nat × List Int)→Nat→List Int→List Int
 | [],_,xs=>xs
 | (k,y)::r,n,xs=>putA r (n+4+k) (bq (0+(n+4)) y 0 (bq (0+n) (b4 (k:Int)) 0 xs))
theorem putA_spec:∀(ls:List (List Int)) (D:List Int) (n:Nat),n=D.length→putA (ls.map fun y=>(y.length,y)) n (D++List.replicate (encL ls) 0)=D++encR ls
 | [],D,n,h=>by simp[putA,encL,encR]
 | y::r,D,n,h=>by
  subst h
  have e1:encL (y::r)=(b4 (y.length:Int)).length+(y.length+encL r):=by rw[lu];simp only[encL];omega
  simp only[List.map_cons,putA]
  rw[e1,put_buf D]
  have e2:D.length+4=(D++b4 (y.length:Int)).length:=by rw[List.length_append,lu]
  rw[e2,put_buf,putA_spec r _ _ (by simp only[List.length_append,lu])]
  simp only[encR,List.append_assoc]
theorem put_all (ls:List (List Int)):putA (ls.map fun y=>(y.length,y)) 4 (bq (0+0) (b4 (ls.length:Int)) 0 (List.replicate (fC ls) 0))=encB ls:=by
 have h:=put_buf [] (b4 (ls.length:Int)) (encL ls)
 simp only[List.nil_append,List.length_nil,lu] at h
 unfold fC
 rw[h,putA_spec ls _ 4 (by rw[lu])]
 rfl
theorem nE {its:List Itm} {r:List Bool} (h:oM its=true::r):∃a t,its= .w a::t∧oM t=r:=by
 cases its with
 | nil=>cases h
 | cons x t=>
  simp only[oM,List.cons.injEq] at h
  cases x with
  | w a=>exact⟨a,t,rfl,h.2⟩
  | v a=>cases h.1
theorem shp_nil {its:List Itm} (h:oM its=[]):its=[]:=by
 cases its with
 | nil=>rfl
 | cons x t=>cases h
theorem dt (y:List Int) (n:Nat) (h:y.length=n):(y.drop 0).take n=y:=by rw[List.drop_zero,List.take_of_length_le (by omega)]
def encRes (ls:List (List Int)):SV:= .t [.a (.sld 0 0 0 (fC ls) (fC ls)),.a (.v (.int .i64 0))]
namespace enc
noncomputable abbrev fn:=Tryz.f52
noncomputable def body:Code:=bZ fn
noncomputable def Γ {G:Glob}:Cons Tryz.prog G:=[four_con]
end enc
def rencRes (ls:List (List Int)):SV:= .t [.a (.slg 0 (fC ls)),.a (.v (.int .i64 0))]
namespace renc
noncomputable abbrev fn:=Tryz.f40
noncomputable def body:Code:=bZ fn
noncomputable def Γ {G:Glob}:Cons Tryz.prog G:=[rfour_con]
noncomputable def A14:Code:=cs1 (cs1 (bY 5 body))
noncomputable def L:Code:=cL (cB (cs2 (cs1 (bY 5 body))))
noncomputable def D:Code:=cs2 (bY 5 body)
theorem fV:bY 5 body= .seq (.seq A14 (.block 2 (.loop L))) D:=by kernel_rfl
noncomputable def B3:Code:=cB (cs1 (bY 2 L))
noncomputable def R17:Code:=cs1 (bY 1 B3)
noncomputable def R18:Code:=cs2 (bY 1 B3)
noncomputable def R19:Code:=cs2 (bY 2 L)
noncomputable def i17:Nat:=match R17 with | .region i _ _=>i | _=>0
noncomputable def i18:Nat:=match R18 with | .region i _ _=>i | _=>0
theorem L_eq:bY 2 L= .seq (.block 3 B3) R19:=by kernel_rfl
theorem B3_eq:bY 1 B3= .seq (.region i17 (opsOf R17) false) (.region i18 (opsOf R18) false):=by kernel_rfl
theorem nil17:(opsOf R17).toList.drop 9=[]:=by kernel_rfl
theorem nil18:(opsOf R18).toList.drop 7=[]:=by kernel_rfl
end renc
def U64 (v:Int):Prop:=0≤v∧v<18446744073709551616
end Go.Proofs.YthlmepolmemejaaGreatDoor

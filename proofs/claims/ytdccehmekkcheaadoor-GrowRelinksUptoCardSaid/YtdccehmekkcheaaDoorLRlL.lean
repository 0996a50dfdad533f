/- The law GrowRelinks: walk. -/
import Derived.Test.YtdccehmekkcheaaDoorLRlF
import Derived.Test.YtdccehmekkcheaaDoorLGaw
namespace Go.Proofs.YtdccehmekkcheaaDoor
open Go Go.Eng Go.RowKit
set_option linter.unusedVariables false
set_option linter.unusedSimpArgs false
set_option maxRecDepth 100000
theorem roomK (n:Nat) (h:n≤4000000):Room Tryd.prog 68 n:=by
 have h1:(Tryd.prog.info? 68).map (·.bytes)=some 96:=by kernel_rfl
 cases hq:Tryd.prog.info? 68 with
 | none=>rw[hq] at h1;cases h1
 | some j=>
  rw[hq] at h1
  have:j.bytes=96:=by simpa using h1
  exact⟨j,hq,by rw[this];omega,by omega⟩
theorem AllK.nil:AllK []:=fun x hx=>by cases hx
theorem kk0:aT ((([]:List Value).drop (0+0)).take (0*96))=[]:=by rw[show((([]:List Value).drop (0+0)).take (0*96))=aD [] from rfl,kkDec_vals]
theorem dtk {l:List Lk} {n:Nat} (hn:l.length=n):((aD l).drop (0+0)).take (n*96)=aD l:=by
 rw[Nat.add_zero,List.drop_zero,List.take_of_length_le (by rw[kvals_len];omega)]
namespace root12
noncomputable abbrev fn:=Tryd.f51
noncomputable def body:Code:=bq fn
noncomputable def Γ (H:Nd→Nd→B32) (hH:H=hV) (E:B32) (hE':E=hE) (S:Nd→B32) (hS':S=hS):Cons Tryd.prog GT:=[rrof.con H hH E hE' S hS' ]
namespace w
section
variable (H:Nd→Nd→B32)
def m (hH:H=hV) (E:B32) (hE':E=hE) (S:Nd→B32) (hS':S=hS) (l:List Lf) (n c:Nat) (ty:TypeId) (x:B32):List Blk:=[⟨false,ty,.prv (lvals l)⟩,⟨true,24,.lit (cB32.row x)⟩]
def M (hH:H=hV) (E:B32) (hE':E=hE) (S:Nd→B32) (hS':S=hS) (l:List Lf) (n c:Nat) (ty:TypeId):List (Option SV):=aC 11 0 [(2,.o (.a (.ptr 1 0)))]
theorem i (hH:H=hV) (E:B32) (hE':E=hE) (S:Nd→B32) (hS':S=hS) (l:List Lf) (n c:Nat) (ty:TypeId) (x:B32):aA (m H hH E hE' S hS' l n c ty x).length (M H hH E hE' S hS' l n c ty ) (m H hH E hE' S hS' l n c ty x)=true:=by kernel_rfl
theorem s (hH:H=hV) (E:B32) (hE':E=hE) (S:Nd→B32) (hS':S=hS) (l:List Lf) (n c:Nat) (ty:TypeId) (x:B32) (e:Int):outN [0,1] (M H hH E hE' S hS' l n c ty ) (exec (Γ H hH E hE' S hS' ) tys 100 body ⟨aF fn [.o (.a (.sld 0 0 0 n c))],[⟨false,ty,.prv (lvals l)⟩],[(7,[.s (hsS (x,e))])]⟩)=some (.ret,(live (M H hH E hE' S hS' l n c ty )).map (SV.ren (piF [0,1])),(M H hH E hE' S hS' l n c ty ).length,(m H hH E hE' S hS' l n c ty x).map (fun b=>some (b.ren (piF [0,1]))),[0+0+n*64≤(lvals l).length,n≤c,((lvals l).drop (0+0)).take (n*64)=lvals (ay (((lvals l).drop (0+0)).take (n*64))),(ay (((lvals l).drop (0+0)).take (n*64))).length=n,n≤4000000,AllL (ay (((lvals l).drop (0+0)).take (n*64))),hsS (rofR H E S (ay (((lvals l).drop (0+0)).take (n*64))))=hsS (x,e)]):=by kernel_rfl
theorem z (hH:H=hV) (E:B32) (hE':E=hE) (S:Nd→B32) (hS':S=hS) (l:List Lf) (n c:Nat) (ty:TypeId) (x:B32) (g:Nat→SV):eRes tys (fill g 0 (M H hH E hE' S hS' l n c ty)) (fun k=>(m H hH E hE' S hS' l n c ty x)[k]?) fn.results.toList=some [.g (cB32.row x)]:=by kernel_rfl
theorem run (hH:H=hV) (E:B32) (hE':E=hE) (S:Nd→B32) (hS':S=hS) (l:List Lf) (n c:Nat) (ty:TypeId) (hn:l.length=n) (hb:n≤4000000) (hc:n≤c) (hk:AllL l):av Tryd.prog GT 1 body (aF fn [.o (.a (.sld 0 0 0 n c))]) [⟨false,ty,.prv (lvals l)⟩] (aB tys fn (aR (cB32.enc (rofR H E S l).1) .none)):=by
 have q:=s H hH E hE' S hS' l n c ty (rofR H E S l).1 (rofR H E S l).2
 rw[dtl hn,bP] at q
 exact Runs.aK aj mixed [0,1] q ⟨by rw[bM,hn];omega,hc,rfl,hn,hb,hk,rfl,trivial⟩ (i H hH E hE' S hS' l n c ty _) rfl fun g=>aB.ret (z H hH E hE' S hS' l n c ty _ g) rfl
end
end w
namespace n
section
variable (H:Nd→Nd→B32)
def m (hH:H=hV) (E:B32) (hE':E=hE) (S:Nd→B32) (hS':S=hS) (a:Option Addr) (x:B32):List Blk:=[⟨true,24,.lit (cB32.row x)⟩]
def M (hH:H=hV) (E:B32) (hE':E=hE) (S:Nd→B32) (hS':S=hS) (a:Option Addr):List (Option SV):=aC 11 0 [(2,.o (.a (.ptr 0 0)))]
theorem i (hH:H=hV) (E:B32) (hE':E=hE) (S:Nd→B32) (hS':S=hS) (a:Option Addr) (x:B32):aA (m H hH E hE' S hS' a x).length (M H hH E hE' S hS' a ) (m H hH E hE' S hS' a x)=true:=by kernel_rfl
theorem s (hH:H=hV) (E:B32) (hE':E=hE) (S:Nd→B32) (hS':S=hS) (a:Option Addr) (x:B32) (e:Int):outN [0] (M H hH E hE' S hS' a ) (exec (Γ H hH E hE' S hS' ) tys 100 body ⟨aF fn [.o (.a (.v (.slice a 0 0)))],[],[(7,[.s (hsS (x,e))])]⟩)=some (.ret,(live (M H hH E hE' S hS' a )).map (SV.ren (piF [0])),(M H hH E hE' S hS' a ).length,(m H hH E hE' S hS' a x).map (fun b=>some (b.ren (piF [0]))),[hsS (rofR H E S [])=hsS (x,e)]):=by kernel_rfl
theorem z (hH:H=hV) (E:B32) (hE':E=hE) (S:Nd→B32) (hS':S=hS) (a:Option Addr) (x:B32) (g:Nat→SV):eRes tys (fill g 0 (M H hH E hE' S hS' a)) (fun k=>(m H hH E hE' S hS' a x)[k]?) fn.results.toList=some [.g (cB32.row x)]:=by kernel_rfl
theorem run (hH:H=hV) (E:B32) (hE':E=hE) (S:Nd→B32) (hS':S=hS) (a:Option Addr):av Tryd.prog GT 0 body (aF fn [.o (.a (.v (.slice a 0 0)))]) [] (aB tys fn (aR (cB32.enc (rofR H E S []).1) .none)):=by
 have q:=s H hH E hE' S hS' a (rofR H E S []).1 (rofR H E S []).2
 exact Runs.aK aj mixed [0] q ⟨rfl,trivial⟩ (i H hH E hE' S hS' a _) rfl fun g=>aB.ret (z H hH E hE' S hS' a _ g) rfl
end
end n
noncomputable def spec (H:Nd→Nd→B32) (E:B32) (S:Nd→B32):List PArg→Option (SV × LEff × Cst)
 | [.winv _ vs n ty]=>some (cB32.enc (rofR H E S (ay vs)).1,.none,[vs=lvals (ay vs),(ay vs).length=n,n≤4000000,AllL (ay vs)])
 | [.val (.o (.a (.v (.slice a 0 0))))]=>some (cB32.enc (rofR H E S []).1,.none,[])
 | _=>none
noncomputable def con (H:Nd→Nd→B32) (hH:H=hV) (E:B32) (hE':E=hE) (S:Nd→B32) (hS':S=hS):Con Tryd.prog GT:=Con.parts aj 51 fn Tryd.func51 (by kernel_rfl) (c:=body) (by kernel_rfl) [.winv 64] (spec H E S)
 (fun ps r e p h hp=>by
  unfold spec at h
  split at h<;>cases h
  ·exact⟨rfl,fun b hb=>by simp only[aN,PArg.blk,List.append_nil,List.nil_append,List.mem_singleton] at hb;rw[hb]⟩
  ·exact⟨rfl,fun b hb=>by simp[aN,PArg.blk] at hb⟩)
 (fun ps r e p cap h hp hi=>by
  unfold spec at h
  split at h<;>cases h
  ·rename_i s vs n ty
   obtain⟨p1,p2,p3,p4,_⟩:=hp
   have q:=w.run H hH E hE' S hS' (ay vs) n (cap 0) ty p2 p3 hi.1.2 p4
   rw[←p1] at q
   exact q
  ·exact n.run H hH E hE' S hS' _)
end root12
namespace lrl
noncomputable def ΓA:Cons Tryd.prog GT:=[awk12.con]
noncomputable def Γ (H:Nd→Nd→B32) (hH:H=hV) (E:B32) (hE':E=hE) (S:Nd→B32) (hS':S=hS):Cons Tryd.prog GT:=[root12.con H hH E hE' S hS' ,grl.con H hH E hE' S hS' ,rrl.con H hH E hE' S hS' ]
def MR:List (Option SV):=aC 87 0 [(6,.o (.a (.v (.bool true))))]
end lrl
namespace lrl
noncomputable abbrev fn:=Tryd.f16
noncomputable def body:Code:=bq fn
noncomputable def A2:Code:=cs1 (cs1 (csuf 3 body))
noncomputable def L:Code:=cL (cB (cs2 (cs1 (csuf 3 body))))
noncomputable def S3:Code:=cs2 (csuf 3 body)
noncomputable def X:Code:=cB (cs1 (csuf 2 L))
noncomputable def R7:Code:=cs2 (csuf 2 L)
noncomputable def R6:Code:=csuf 2 X
theorem bE:csuf 3 body= .seq (.seq A2 (.block 0 (.loop L))) S3:=by kernel_rfl
theorem suf_L:csuf 2 L= .seq (.block 1 X) R7:=by kernel_rfl
namespace w
section
variable (H:Nd→Nd→B32)
def m0 (hH:H=hV) (E:B32) (hE':E=hE) (S:Nd→B32) (hS':S=hS) (s t:B32) (l:List Lk) (n c:Nat) (ty:TypeId):List Blk:=[⟨false,ty,.prv (aD l)⟩,⟨true,24,.lit (cB32.row s)⟩,⟨true,24,.lit (cB32.row t)⟩]
def M0 (hH:H=hV) (E:B32) (hE':E=hE) (S:Nd→B32) (hS':S=hS) (s t:B32) (l:List Lk) (n c:Nat) (ty:TypeId):List (Option SV):=aC 87 0 [(2,.o (.a (.sld 0 0 0 n c))),(3,.o (.a (.ptr 1 0))),(4,.o (.a (.ptr 2 0))),(7,.o (.a (.v (.slice none 0 0)))),(8,.o (.a (.v (.slice none 0 0))))]
def Mz (hH:H=hV) (E:B32) (hE':E=hE) (S:Nd→B32) (hS':S=hS) (s t:B32) (l:List Lk) (n c:Nat) (ty:TypeId):List (Option SV):=aC 87 0 [(2,.o (.a (.sld 0 0 0 n c))),(3,.o (.a (.ptr 1 0))),(4,.o (.a (.ptr 2 0))),(7,.o (.a (.v (.slice none 0 0)))),(8,.o (.a (.v (.slice none 0 0)))),(16,.o (.a (int1 .i64 n))),(17,.o (.a (int1 .i64 0)))]
def Dz (hH:H=hV) (E:B32) (hE':E=hE) (S:Nd→B32) (hS':S=hS) (s t:B32) (l:List Lk) (n c:Nat) (ty:TypeId):List (Option SV):=aC 87 0 [(2,.o (.a (.sld 0 0 0 n c))),(3,.o (.a (.ptr 1 0))),(4,.o (.a (.ptr 2 0))),(7,.o (.a (.v (.slice none 0 0)))),(8,.o (.a (.v (.slice none 0 0))))]
theorem iM0 (hH:H=hV) (E:B32) (hE':E=hE) (S:Nd→B32) (hS':S=hS) (s t:B32) (l:List Lk) (n c:Nat) (ty:TypeId):aA (m0 H hH E hE' S hS' s t l n c ty ).length (M0 H hH E hE' S hS' s t l n c ty ) (m0 H hH E hE' S hS' s t l n c ty )=true:=by kernel_rfl
theorem iMz (hH:H=hV) (E:B32) (hE':E=hE) (S:Nd→B32) (hS':S=hS) (s t:B32) (l:List Lk) (n c:Nat) (ty:TypeId):aA (m0 H hH E hE' S hS' s t l n c ty ).length (Mz H hH E hE' S hS' s t l n c ty ) (m0 H hH E hE' S hS' s t l n c ty )=true:=by kernel_rfl
theorem iDz (hH:H=hV) (E:B32) (hE':E=hE) (S:Nd→B32) (hS':S=hS) (s t:B32) (l:List Lk) (n c:Nat) (ty:TypeId):aA (m0 H hH E hE' S hS' s t l n c ty ).length (Dz H hH E hE' S hS' s t l n c ty ) (m0 H hH E hE' S hS' s t l n c ty )=true:=by kernel_rfl
theorem a1 (hH:H=hV) (E:B32) (hE':E=hE) (S:Nd→B32) (hS':S=hS) (s t:B32) (l:List Lk) (n c:Nat) (ty:TypeId) (g:Nat→SV):outX (m0 H hH E hE' S hS' s t l n c ty ).length (Mz H hH E hE' S hS' s t l n c ty ) (exec ([]:Cons Tryd.prog GT) tys 300 A2 ⟨fill g 0 (M0 H hH E hE' S hS' s t l n c ty ),m0 H hH E hE' S hS' s t l n c ty ,[]⟩)=some (.normal,live (Mz H hH E hE' S hS' s t l n c ty ),(Mz H hH E hE' S hS' s t l n c ty ).length,m0 H hH E hE' S hS' s t l n c ty ,[]):=by kernel_rfl
theorem oz (hH:H=hV) (E:B32) (hE':E=hE) (S:Nd→B32) (hS':S=hS) (s t:B32) (l:List Lk) (n c:Nat) (ty:TypeId) (g:Nat→SV):outX (m0 H hH E hE' S hS' s t l n c ty ).length (Dz H hH E hE' S hS' s t l n c ty ) (exec ([]:Cons Tryd.prog GT) tys 300 L ⟨fill g 0 (Mz H hH E hE' S hS' s t l n c ty ),m0 H hH E hE' S hS' s t l n c ty ,[(18,[.b false])]⟩)=some ((.exit 0),live (Dz H hH E hE' S hS' s t l n c ty ),(Dz H hH E hE' S hS' s t l n c ty ).length,m0 H hH E hE' S hS' s t l n c ty ,[decide ((0:Int)<n)=false]):=by kernel_rfl
def ms (hH:H=hV) (E:B32) (hE':E=hE) (S:Nd→B32) (hS':S=hS) (s t:B32) (l:List Lk) (n c:Nat) (ty:TypeId) (us:List Value) (lo:Nat) (hi:Option Nat) (vs:List Value) (lp:Nat) (hj:Option Nat):List Blk:=[⟨false,ty,.prv (aD l)⟩,⟨true,24,.lit (cB32.row s)⟩,⟨true,24,.lit (cB32.row t)⟩,⟨true,30,.grv 64 us lo hi⟩,⟨true,30,.grv 64 vs lp hj⟩]
def Ms (hH:H=hV) (E:B32) (hE':E=hE) (S:Nd→B32) (hS':S=hS) (s t:B32) (l:List Lk) (n c:Nat) (ty:TypeId) (u:Nat) (j:Int):List (Option SV):=aC 87 0 [(2,.o (.a (.sld 0 0 0 n c))),(3,.o (.a (.ptr 1 0))),(4,.o (.a (.ptr 2 0))),(7,.o (.a (.slg 3 u))),(8,.o (.a (.slg 4 u))),(16,.o (.a (int1 .i64 n))),(17,.o (.a (int1 .i64 j)))]
def Mm (hH:H=hV) (E:B32) (hE':E=hE) (S:Nd→B32) (hS':S=hS) (s t:B32) (l:List Lk) (n c:Nat) (ty:TypeId) (u:Nat) (j:Int):List (Option SV):=aC 87 0 [(2,.o (.a (.sld 0 0 0 n c))),(3,.o (.a (.ptr 1 0))),(4,.o (.a (.ptr 2 0))),(7,.o (.a (.slg 3 (u+1)))),(8,.o (.a (.slg 4 u))),(9,.o (.a (int1 .i64 j))),(16,.o (.a (int1 .i64 n))),(17,.o (.a (int1 .i64 j)))]
def Ds (hH:H=hV) (E:B32) (hE':E=hE) (S:Nd→B32) (hS':S=hS) (s t:B32) (l:List Lk) (n c:Nat) (ty:TypeId) (u:Nat):List (Option SV):=aC 87 0 [(2,.o (.a (.sld 0 0 0 n c))),(3,.o (.a (.ptr 1 0))),(4,.o (.a (.ptr 2 0))),(7,.o (.a (.slg 3 u))),(8,.o (.a (.slg 4 u)))]
theorem iMs (hH:H=hV) (E:B32) (hE':E=hE) (S:Nd→B32) (hS':S=hS) (s t:B32) (l:List Lk) (n c:Nat) (ty:TypeId) (us:List Value) (lo:Nat) (hi:Option Nat) (vs:List Value) (lp:Nat) (hj:Option Nat) (u:Nat) (j:Int):aA (ms H hH E hE' S hS' s t l n c ty us lo hi vs lp hj).length (Ms H hH E hE' S hS' s t l n c ty u j) (ms H hH E hE' S hS' s t l n c ty us lo hi vs lp hj)=true:=by kernel_rfl
theorem iMm (hH:H=hV) (E:B32) (hE':E=hE) (S:Nd→B32) (hS':S=hS) (s t:B32) (l:List Lk) (n c:Nat) (ty:TypeId) (us:List Value) (lo:Nat) (hi:Option Nat) (vs:List Value) (lp:Nat) (hj:Option Nat) (u:Nat) (j:Int):aA (ms H hH E hE' S hS' s t l n c ty us lo hi vs lp hj).length (Mm H hH E hE' S hS' s t l n c ty u j) (ms H hH E hE' S hS' s t l n c ty us lo hi vs lp hj)=true:=by kernel_rfl
theorem iDs (hH:H=hV) (E:B32) (hE':E=hE) (S:Nd→B32) (hS':S=hS) (s t:B32) (l:List Lk) (n c:Nat) (ty:TypeId) (us:List Value) (lo:Nat) (hi:Option Nat) (vs:List Value) (lp:Nat) (hj:Option Nat) (u:Nat):aA (ms H hH E hE' S hS' s t l n c ty us lo hi vs lp hj).length (Ds H hH E hE' S hS' s t l n c ty u) (ms H hH E hE' S hS' s t l n c ty us lo hi vs lp hj)=true:=by kernel_rfl
theorem zy (hH:H=hV) (E:B32) (hE':E=hE) (S:Nd→B32) (hS':S=hS) (s t:B32) (l:List Lk) (n c:Nat) (ty:TypeId) (x:Lk) (g:Nat→SV):outN [0,1,2,4,6] (Ms H hH E hE' S hS' s t l n c ty 1 1) (exec ([]:Cons Tryd.prog GT) tys 100 L ⟨fill g 0 (Mz H hH E hE' S hS' s t l n c ty ),m0 H hH E hE' S hS' s t l n c ty ,[(18,[.b true]),(25,[.ds (cB32.enc x.old)]),(30,[.ds (cB32.enc x.val)]),(32,[.dyn]),(39,[.ds (cB32.enc x.new)]),(44,[.ds (cB32.enc x.val)]),(46,[.dyn])]⟩)=some (.normal,(live (Ms H hH E hE' S hS' s t l n c ty 1 1)).map (SV.ren (piF [0,1,2,4,6])),(Ms H hH E hE' S hS' s t l n c ty 1 1).length,(ms H hH E hE' S hS' s t l n c ty (oldL x).vals 1 none (newL x).vals 1 none).map (fun b=>some (b.ren (piF [0,1,2,4,6]))),[decide ((0:Int)<n)=true,0≤(0:Int),(0:Int)<n,0+offI 0 0 96+32≤(aD l).length,SV.o (.g (aL (aD l) (0+offI 0 0 96) 32))=cB32.enc x.old,0≤(0:Int),(0:Int)<n,0+(offI 0 0 96+64)+32≤(aD l).length,SV.o (.g (aL (aD l) (0+(offI 0 0 96+64)) 32))=cB32.enc x.val,64=1*64,0+0+1*64≤(oldL x).vals.length,0<1,Room Tryd.prog 30 1,0≤(0:Int),(0:Int)<n,0+(offI 0 0 96+32)+32≤(aD l).length,SV.o (.g (aL (aD l) (0+(offI 0 0 96+32)) 32))=cB32.enc x.new,0≤(0:Int),(0:Int)<n,0+(offI 0 0 96+64)+32≤(aD l).length,SV.o (.g (aL (aD l) (0+(offI 0 0 96+64)) 32))=cB32.enc x.val,64=1*64,0+0+1*64≤(newL x).vals.length,0<1,Room Tryd.prog 30 1]):=by kernel_rfl
theorem hds (hH:H=hV) (E:B32) (hE':E=hE) (S:Nd→B32) (hS':S=hS) (s t:B32) (l:List Lk) (n c:Nat) (ty:TypeId) (us:List Value) (lo:Nat) (hi:Option Nat) (vs:List Value) (lp:Nat) (hj:Option Nat) (u:Nat) (j:Int) (g:Nat→SV):outX (ms H hH E hE' S hS' s t l n c ty us lo hi vs lp hj).length (Ms H hH E hE' S hS' s t l n c ty u j) (exec ([]:Cons Tryd.prog GT) tys 300 (cpre 2 L) ⟨fill g 0 (Ms H hH E hE' S hS' s t l n c ty u j),ms H hH E hE' S hS' s t l n c ty us lo hi vs lp hj,[(18,[.b true])]⟩)=some (.normal,live (Ms H hH E hE' S hS' s t l n c ty u j),(Ms H hH E hE' S hS' s t l n c ty u j).length,ms H hH E hE' S hS' s t l n c ty us lo hi vs lp hj,[decide (j<n)=true]):=by kernel_rfl
theorem ag (hH:H=hV) (E:B32) (hE':E=hE) (S:Nd→B32) (hS':S=hS) (s t:B32) (l:List Lk) (n c:Nat) (ty:TypeId) (us:List Value) (vs:List Value) (lp:Nat) (hj:Option Nat) (u:Nat) (j:Int) (x:Lk) (g:Nat→SV):outX (ms H hH E hE' S hS' s t l n c ty (us++(oldL x).vals) (u+1) none vs lp hj).length (Mm H hH E hE' S hS' s t l n c ty u j) (exec ([]:Cons Tryd.prog GT) tys 300 (cpre 2 X) ⟨fill g 0 (Ms H hH E hE' S hS' s t l n c ty u j),ms H hH E hE' S hS' s t l n c ty us (u+1) none vs lp hj,[(25,[.ds (cB32.enc x.old)]),(30,[.ds (cB32.enc x.val)]),(32,[.dyn]),(33,[.dyn])]⟩)=some (.normal,live (Mm H hH E hE' S hS' s t l n c ty u j),(Mm H hH E hE' S hS' s t l n c ty u j).length,ms H hH E hE' S hS' s t l n c ty (us++(oldL x).vals) (u+1) none vs lp hj,[0≤j,j<n,0+offI 0 j 96+32≤(aD l).length,SV.o (.g (aL (aD l) (0+offI 0 j 96) 32))=cB32.enc x.old,0≤j,j<n,0+(offI 0 j 96+64)+32≤(aD l).length,SV.o (.g (aL (aD l) (0+(offI 0 j 96+64)) 32))=cB32.enc x.val,64=1*64,0+0+1*64≤(oldL x).vals.length,u*64=us.length,u+1≤u+1,∀v∈(oldL x).vals,v.oneCell'=true]):=by kernel_rfl
theorem ar (hH:H=hV) (E:B32) (hE':E=hE) (S:Nd→B32) (hS':S=hS) (s t:B32) (l:List Lk) (n c:Nat) (ty:TypeId) (us:List Value) (vs:List Value) (lp:Nat) (hj:Option Nat) (lo:Nat) (u:Nat) (j:Int) (x:Lk) (g:Nat→SV):outN [0,1,2,6,4] (Mm H hH E hE' S hS' s t l n c ty u j) (exec ([]:Cons Tryd.prog GT) tys 100 (cpre 2 X) ⟨fill g 0 (Ms H hH E hE' S hS' s t l n c ty u j),ms H hH E hE' S hS' s t l n c ty us lo (some (u+1)) vs lp hj,[(25,[.ds (cB32.enc x.old)]),(30,[.ds (cB32.enc x.val)]),(32,[.dyn]),(33,[.dyn])]⟩)=some (.normal,(live (Mm H hH E hE' S hS' s t l n c ty u j)).map (SV.ren (piF [0,1,2,6,4])),(Mm H hH E hE' S hS' s t l n c ty u j).length,(ms H hH E hE' S hS' s t l n c ty (us++(oldL x).vals) (u+1) none vs lp hj).map (fun b=>some (b.ren (piF [0,1,2,6,4]))),[0≤j,j<n,0+offI 0 j 96+32≤(aD l).length,SV.o (.g (aL (aD l) (0+offI 0 j 96) 32))=cB32.enc x.old,0≤j,j<n,0+(offI 0 j 96+64)+32≤(aD l).length,SV.o (.g (aL (aD l) (0+(offI 0 j 96+64)) 32))=cB32.enc x.val,64=1*64,0+0+1*64≤(oldL x).vals.length,u*64=us.length,u+1≤u+1,Room Tryd.prog 30 (u+1)]):=by kernel_rfl
theorem bg (hH:H=hV) (E:B32) (hE':E=hE) (S:Nd→B32) (hS':S=hS) (s t:B32) (l:List Lk) (n c:Nat) (ty:TypeId) (us:List Value) (lo:Nat) (hi:Option Nat) (vs:List Value) (u:Nat) (j:Int) (x:Lk) (g:Nat→SV):outX (ms H hH E hE' S hS' s t l n c ty us lo hi (vs++(newL x).vals) (u+1) none).length (Ms H hH E hE' S hS' s t l n c ty (u+1) j) (exec ([]:Cons Tryd.prog GT) tys 300 R6 ⟨fill g 0 (Mm H hH E hE' S hS' s t l n c ty u j),ms H hH E hE' S hS' s t l n c ty us lo hi vs (u+1) none,[(39,[.ds (cB32.enc x.new)]),(44,[.ds (cB32.enc x.val)]),(46,[.dyn]),(47,[.dyn])]⟩)=some (.normal,live (Ms H hH E hE' S hS' s t l n c ty (u+1) j),(Ms H hH E hE' S hS' s t l n c ty (u+1) j).length,ms H hH E hE' S hS' s t l n c ty us lo hi (vs++(newL x).vals) (u+1) none,[0≤j,j<n,0+(offI 0 j 96+32)+32≤(aD l).length,SV.o (.g (aL (aD l) (0+(offI 0 j 96+32)) 32))=cB32.enc x.new,0≤j,j<n,0+(offI 0 j 96+64)+32≤(aD l).length,SV.o (.g (aL (aD l) (0+(offI 0 j 96+64)) 32))=cB32.enc x.val,64=1*64,0+0+1*64≤(newL x).vals.length,u*64=vs.length,u+1≤u+1,∀v∈(newL x).vals,v.oneCell'=true]):=by kernel_rfl
theorem br (hH:H=hV) (E:B32) (hE':E=hE) (S:Nd→B32) (hS':S=hS) (s t:B32) (l:List Lk) (n c:Nat) (ty:TypeId) (us:List Value) (lo:Nat) (hi:Option Nat) (vs:List Value) (lp:Nat) (u:Nat) (j:Int) (x:Lk) (g:Nat→SV):outN [0,1,2,3,6] (Ms H hH E hE' S hS' s t l n c ty (u+1) j) (exec ([]:Cons Tryd.prog GT) tys 100 R6 ⟨fill g 0 (Mm H hH E hE' S hS' s t l n c ty u j),ms H hH E hE' S hS' s t l n c ty us lo hi vs lp (some (u+1)),[(39,[.ds (cB32.enc x.new)]),(44,[.ds (cB32.enc x.val)]),(46,[.dyn]),(47,[.dyn])]⟩)=some (.normal,(live (Ms H hH E hE' S hS' s t l n c ty (u+1) j)).map (SV.ren (piF [0,1,2,3,6])),(Ms H hH E hE' S hS' s t l n c ty (u+1) j).length,(ms H hH E hE' S hS' s t l n c ty us lo hi (vs++(newL x).vals) (u+1) none).map (fun b=>some (b.ren (piF [0,1,2,3,6]))),[0≤j,j<n,0+(offI 0 j 96+32)+32≤(aD l).length,SV.o (.g (aL (aD l) (0+(offI 0 j 96+32)) 32))=cB32.enc x.new,0≤j,j<n,0+(offI 0 j 96+64)+32≤(aD l).length,SV.o (.g (aL (aD l) (0+(offI 0 j 96+64)) 32))=cB32.enc x.val,64=1*64,0+0+1*64≤(newL x).vals.length,u*64=vs.length,u+1≤u+1,Room Tryd.prog 30 (u+1)]):=by kernel_rfl
theorem nx (hH:H=hV) (E:B32) (hE':E=hE) (S:Nd→B32) (hS':S=hS) (s t:B32) (l:List Lk) (n c:Nat) (ty:TypeId) (us:List Value) (lo:Nat) (hi:Option Nat) (vs:List Value) (lp:Nat) (hj:Option Nat) (u:Nat) (j j':Int) (g:Nat→SV):outX (ms H hH E hE' S hS' s t l n c ty us lo hi vs lp hj).length (Ms H hH E hE' S hS' s t l n c ty u j') (exec ([]:Cons Tryd.prog GT) tys 300 R7 ⟨fill g 0 (Ms H hH E hE' S hS' s t l n c ty u j),ms H hH E hE' S hS' s t l n c ty us lo hi vs lp hj,[(48,[.n j'])]⟩)=some (.normal,live (Ms H hH E hE' S hS' s t l n c ty u j'),(Ms H hH E hE' S hS' s t l n c ty u j').length,ms H hH E hE' S hS' s t l n c ty us lo hi vs lp hj,[IntKind.i64.wrap (j+1)=j']):=by kernel_rfl
theorem os (hH:H=hV) (E:B32) (hE':E=hE) (S:Nd→B32) (hS':S=hS) (s t:B32) (l:List Lk) (n c:Nat) (ty:TypeId) (us:List Value) (lo:Nat) (hi:Option Nat) (vs:List Value) (lp:Nat) (hj:Option Nat) (u:Nat) (j:Int) (g:Nat→SV):outX (ms H hH E hE' S hS' s t l n c ty us lo hi vs lp hj).length (Ds H hH E hE' S hS' s t l n c ty u) (exec ([]:Cons Tryd.prog GT) tys 300 L ⟨fill g 0 (Ms H hH E hE' S hS' s t l n c ty u j),ms H hH E hE' S hS' s t l n c ty us lo hi vs lp hj,[(18,[.b false])]⟩)=some ((.exit 0),live (Ds H hH E hE' S hS' s t l n c ty u),(Ds H hH E hE' S hS' s t l n c ty u).length,ms H hH E hE' S hS' s t l n c ty us lo hi vs lp hj,[decide (j<n)=false]):=by kernel_rfl
end
def MA (H:Nd→Nd→B32) (hH:H=hV) (E:B32) (hE':E=hE) (S:Nd→B32) (hS':S=hS) (s t:B32) (l:List Lk) (n c:Nat) (ty:TypeId):Nat→List (Option SV)
 | 0=>Mz H hH E hE' S hS' s t l n c ty
 | i+1=>Ms H hH E hE' S hS' s t l n c ty (i+1) ((i+1:Nat):Int)
def mA (H:Nd→Nd→B32) (hH:H=hV) (E:B32) (hE':E=hE) (S:Nd→B32) (hS':S=hS) (s t:B32) (l:List Lk) (n c:Nat) (ty:TypeId):Nat→List Blk
 | 0=>m0 H hH E hE' S hS' s t l n c ty
 | i+1=>ms H hH E hE' S hS' s t l n c ty (lvals (olds (l.take (i+1)))) (i+1) none (lvals (news (l.take (i+1)))) (i+1) none
section
variable (H:Nd→Nd→B32) (hH:H=hV) (E:B32) (hE':E=hE) (S:Nd→B32) (hS':S=hS) (s t:B32) (l:List Lk) (n c:Nat) (ty:TypeId)
theorem loop (hn:l.length=n) (hb:n≤4000000) {Post:Ex→List SV→List Blk→Prop} (hz:n=0→∀g,Post (.exit 0) (fill g 0 (Dz H hH E hE' S hS' s t l n c ty)) (m0 H hH E hE' S hS' s t l n c ty)) (hp:0<n→∀g,Post (.exit 0) (fill g 0 (Ds H hH E hE' S hS' s t l n c ty n)) (ms H hH E hE' S hS' s t l n c ty (lvals (olds l)) n none (lvals (news l)) n none)) (g:Nat→SV):
  av Tryd.prog GT 1 (.loop L) (fill g 0 (Mz H hH E hE' S hS' s t l n c ty)) (m0 H hH E hE' S hS' s t l n c ty) Post:=by
 have lk:(aD l).length=n*96:=by rw[←hn];exact kvals_len l
 refine Runs.loopX (fun(i:Nat)=>MA H hH E hE' S hS' s t l n c ty i) (fun i=>mA H hH E hE' S hS' s t l n c ty i) (fun i=>i≤n) (fun i=>n-i) ?_ 0 (Nat.zero_le _) g
 rintro i g hi
 rcases Nat.lt_or_ge i n with h | h
 ·have o96:=offs i 96
  have o1:0+(offI 0 (i:Int) 96+32)=i*96+32:=by omega
  have o2:0+(offI 0 (i:Int) 96+64)=i*96+64:=by omega
  have hb6:i*96+96≤n*96:=by have:=Nat.mul_le_mul_right 96 (show i+1≤n by omega);omega
  have a0:0+offI 0 (i:Int) 96+32≤(aD l).length:=by rw[o96,lk];omega
  have b0:0+(offI 0 (i:Int) 96+32)+32≤(aD l).length:=by rw[o1,lk];omega
  have c0:0+(offI 0 (i:Int) 96+64)+32≤(aD l).length:=by rw[o2,lk];omega
  have a1:SV.o (.g (aL (aD l) (0+offI 0 (i:Int) 96) 32))=cB32.enc (l.getD i zk).old:=by rw[o96];exact ld_k0 l (by omega)
  have b1:SV.o (.g (aL (aD l) (0+(offI 0 (i:Int) 96+32)) 32))=cB32.enc (l.getD i zk).new:=by rw[o1];exact ld_k1 l (by omega)
  have c1:SV.o (.g (aL (aD l) (0+(offI 0 (i:Int) 96+64)) 32))=cB32.enc (l.getD i zk).val:=by rw[o2];exact ld_k2 l (by omega)
  have v1:=Lf.bJ (oldL (l.getD i zk))
  have v2:=Lf.bJ (newL (l.getD i zk))
  have s1:=olds_take (show i<l.length by omega)
  have s2:=news_take (show i<l.length by omega)
  cases i with
  | zero=>
   refine Runs.aK aj mixed [0,1,2,4,6] (zy H hH E hE' S hS' s t l n c ty (l.getD 0 zk) g) ⟨decide_eq_true (by omega),by omega,by omega,a0,a1,by omega,by omega,c0,c1,rfl,by omega,by omega,roomLf 1 (by omega),by omega,by omega,b0,b1,by omega,by omega,c0,c1,rfl,by omega,by omega,roomLf 1 (by omega),trivial⟩ (iMs H hH E hE' S hS' s t l n c ty _ _ _ _ _ _ _ _) rfl fun g=> ?_
   refine⟨1,g,rfl,?_,by omega,by omega⟩
   show ms H hH E hE' S hS' s t l n c ty _ 1 none _ 1 none=ms H hH E hE' S hS' s t l n c ty (lvals (olds (l.take 1))) 1 none (lvals (news (l.take 1))) 1 none
   rw[s1,s2,lv1,lv1]
   rfl
  | succ i=>
   have l1:(lvals (olds (l.take (i+1)))).length=(i+1)*64:=by rw[bM,olds_len,List.length_take];omega
   have l2:(lvals (news (l.take (i+1)))).length=(i+1)*64:=by rw[bM,news_len,List.length_take];omega
   have hw2:IntKind.i64.wrap (((i+1:Nat):Int)+1)=((i+1+1:Nat):Int):=by rw[IntKind.wrap_i64];omega
   refine Runs.bD aj mixed 2 (hds H hH E hE' S hS' s t l n c ty _ _ _ _ _ _ _ _ g) ⟨decide_eq_true (by omega),trivial⟩ (iMs H hH E hE' S hS' s t l n c ty _ _ _ _ _ _ _ _) rfl fun g=> ?_
   rw[suf_L]
   refine Runs.seq (Runs.block ?_)
   have second:∀g,av Tryd.prog GT 1 R6 (fill g 0 (Mm H hH E hE' S hS' s t l n c ty (i+1) ((i+1:Nat):Int))) (ms H hH E hE' S hS' s t l n c ty (lvals (olds (l.take (i+1)))++(oldL (l.getD (i+1) zk)).vals) (i+1+1) none (lvals (news (l.take (i+1)))) (i+1) none) (fun e t' m'=>∃g,e=Ex.normal∧t'=fill g 0 (Ms H hH E hE' S hS' s t l n c ty (i+1+1) ((i+1:Nat):Int))∧m'=ms H hH E hE' S hS' s t l n c ty (lvals (olds (l.take (i+1+1)))) (i+1+1) none (lvals (news (l.take (i+1+1)))) (i+1+1) none):=fun g=>by
    rw[s1,s2,lv1,lv1]
    refine Runs.roomV 4 (i+1+1) (own:=true) (ty:=30) (s:=64) (vs:=lvals (news (l.take (i+1)))) (lo:=i+1) rfl ?_ ?_
    ·exact Runs.au aj mixed (bg H hH E hE' S hS' s t l n c ty _ _ _ _ (i+1) _ (l.getD (i+1) zk) g) ⟨by omega,by omega,b0,b1,by omega,by omega,c0,c1,rfl,by omega,by omega,Nat.le_refl _,dst.oneLv _,trivial⟩ (iMs H hH E hE' S hS' s t l n c ty _ _ _ _ _ _ _ _) rfl fun g=>⟨g,rfl,rfl,rfl⟩
    ·exact Runs.aK aj mixed [0,1,2,3,6] (br H hH E hE' S hS' s t l n c ty _ _ _ _ (i+1) (i+1) _ (l.getD (i+1) zk) g) ⟨by omega,by omega,b0,b1,by omega,by omega,c0,c1,rfl,by omega,by omega,Nat.le_refl _,roomLf _ (by omega),trivial⟩ (iMs H hH E hE' S hS' s t l n c ty _ _ _ _ _ _ _ _) rfl fun g=>⟨g,rfl,rfl,rfl⟩
   have done:∀{e:Ex} {t':List SV} {m':List Blk},(∃g,e=Ex.normal∧t'=fill g 0 (Ms H hH E hE' S hS' s t l n c ty (i+1+1) ((i+1:Nat):Int))∧m'=ms H hH E hE' S hS' s t l n c ty (lvals (olds (l.take (i+1+1)))) (i+1+1) none (lvals (news (l.take (i+1+1)))) (i+1+1) none)→e=Ex.normal∧av Tryd.prog GT 1 R7 t' m' (fun e t' m'=>∃g,e=Ex.normal∧t'=fill g 0 (MA H hH E hE' S hS' s t l n c ty (i+1+1))∧m'=mA H hH E hE' S hS' s t l n c ty (i+1+1)):=fun {e t' m'} ⟨g,h1,h2,h3⟩=>by
    subst h1 h2 h3
    exact⟨rfl,Runs.au aj mixed (nx H hH E hE' S hS' s t l n c ty _ _ _ _ _ _ (i+1+1) _ ((i+1+1:Nat):Int) g) ⟨hw2,trivial⟩ (iMs H hH E hE' S hS' s t l n c ty _ _ _ _ _ _ _ _) rfl fun g=>⟨g,rfl,rfl,rfl⟩⟩
   refine Runs.mono (Post:=fun e t' m'=>∃g,e=Ex.normal∧t'=fill g 0 (Ms H hH E hE' S hS' s t l n c ty (i+1+1) ((i+1:Nat):Int))∧m'=ms H hH E hE' S hS' s t l n c ty (lvals (olds (l.take (i+1+1)))) (i+1+1) none (lvals (news (l.take (i+1+1)))) (i+1+1) none) ?_ fun e t' m' hh=> ?_
   ·refine Runs.roomV 3 (i+1+1) (own:=true) (ty:=30) (s:=64) (vs:=lvals (olds (l.take (i+1)))) (lo:=i+1) rfl ?_ ?_
    ·refine Runs.bD aj mixed 2 (ag H hH E hE' S hS' s t l n c ty _ _ _ _ (i+1) _ (l.getD (i+1) zk) g) ⟨by omega,by omega,a0,a1,by omega,by omega,c0,c1,rfl,by omega,by omega,Nat.le_refl _,dst.oneLv _,trivial⟩ (iMm H hH E hE' S hS' s t l n c ty _ _ _ _ _ _ _ _) rfl fun g=> ?_
     exact second g
    ·refine Runs.of_outNP aj mixed 2 [0,1,2,6,4] (ar H hH E hE' S hS' s t l n c ty _ _ _ _ (i+1) (i+1) _ (l.getD (i+1) zk) g) ⟨by omega,by omega,a0,a1,by omega,by omega,c0,c1,rfl,by omega,by omega,Nat.le_refl _,roomLf _ (by omega),trivial⟩ (iMm H hH E hE' S hS' s t l n c ty _ _ _ _ _ _ _ _) rfl fun g=> ?_
     exact second g
   ·obtain⟨rfl,hr⟩:=done hh
    show av _ _ _ R7 _ _ _
    refine Runs.mono hr fun e t' m' ⟨g,h1,h2,h3⟩=> ?_
    subst h1
    exact⟨i+1+1,g,h2,h3,by omega,by omega⟩
 ·obtain rfl:i=n:=by omega
  cases i with
  | zero=>exact Runs.au aj mixed (oz H hH E hE' S hS' s t l 0 c ty g) ⟨decide_eq_false (by omega),trivial⟩ (iDz H hH E hE' S hS' s t l 0 c ty) rfl fun g=>hz rfl g
  | succ i=>
   have ht:l.take (i+1)=l:=List.take_of_length_le (by omega)
   refine Runs.au aj mixed (os H hH E hE' S hS' s t l (i+1) c ty _ _ _ _ _ _ _ _ g) ⟨decide_eq_false (by omega),trivial⟩ (iDs H hH E hE' S hS' s t l (i+1) c ty _ _ _ _ _ _ _) rfl fun g=> ?_
   rw[ht]
   exact hp (by omega) g
theorem s0:outX (m0 H hH E hE' S hS' s t l n c ty ).length (M0 H hH E hE' S hS' s t l n c ty ) (exec ΓA tys 300 (cpre 3 body) ⟨aF fn [cB32.enc s,cB32.enc t,.o (.a (.sld 0 0 0 n c))],([⟨false,ty,.prv (aD l)⟩]:List Blk),[]⟩)=some (.normal,live (M0 H hH E hE' S hS' s t l n c ty ),(M0 H hH E hE' S hS' s t l n c ty ).length,m0 H hH E hE' S hS' s t l n c ty ,[]):=by kernel_rfl
end
theorem zr (g:Nat→SV) (mm:Nat→Option Blk):eRes tys (fill g 0 MR) mm fn.results.toList=some [.a (bool1 true)]:=by kernel_rfl
section
variable (H:Nd→Nd→B32) (hH:H=hV) (E:B32) (hE':E=hE) (S:Nd→B32) (hS':S=hS) (s t:B32) (l:List Lk) (n c:Nat) (ty:TypeId)
theorem fz (x y:B32) (u1 u2 u3:Int) (g:Nat→SV):outN [0] (MR) (exec (Γ H hH E hE' S hS' ) tys 100 S3 ⟨fill g 0 (Dz H hH E hE' S hS' s t l n c ty ),m0 H hH E hE' S hS' s t l n c ty ,[(50,[.s (cB32.enc x)]),(52,[.s (cB32.enc y)]),(55,[.dyn]),(59,[.n u1]),(63,[.n u1]),(64,[.b true]),(69,[.n u2]),(73,[.n u2]),(74,[.b true]),(80,[.n u3]),(84,[.n u3]),(85,[.b true])]⟩)=some (.ret,(live (MR)).map (SV.ren (piF [0])),(MR).length,(([⟨false,ty,.prv (aD l)⟩]:List Blk)).map (fun b=>some (b.ren (piF [0]))),[cB32.enc (rofR H E S []).1=cB32.enc x,cB32.enc (rofR H E S []).1=cB32.enc y,0+0+n*96≤(aD l).length,n=0,0+0+0*96≤0,0≤0,(([]:List Value).drop (0+0)).take (0*96)=aD (aT ((([]:List Value).drop (0+0)).take (0*96))),(aT ((([]:List Value).drop (0+0)).take (0*96))).length=0,0≤4000000,AllK (aT ((([]:List Value).drop (0+0)).take (0*96))),relV H E S s t (aT ((([]:List Value).drop (0+0)).take (0*96)))=u1,0+0+n*96≤(aD l).length,n≤c,((aD l).drop (0+0)).take (n*96)=aD (aT (((aD l).drop (0+0)).take (n*96))),(aT (((aD l).drop (0+0)).take (n*96))).length=n,n≤4000000,AllK (aT (((aD l).drop (0+0)).take (n*96))),relV H E S s t (aT (((aD l).drop (0+0)).take (n*96)))=u1,(u1==u1)=true,0+0+0*96≤0,0≤0,(([]:List Value).drop (0+0)).take (0*96)=aD (aT ((([]:List Value).drop (0+0)).take (0*96))),(aT ((([]:List Value).drop (0+0)).take (0*96))).length=0,0≤4000000,AllK (aT ((([]:List Value).drop (0+0)).take (0*96))),relV H E S x y (aT ((([]:List Value).drop (0+0)).take (0*96)))=u2,0+0+n*96≤(aD l).length,n≤c,((aD l).drop (0+0)).take (n*96)=aD (aT (((aD l).drop (0+0)).take (n*96))),(aT (((aD l).drop (0+0)).take (n*96))).length=n,n≤4000000,AllK (aT (((aD l).drop (0+0)).take (n*96))),relV H E S x y (aT (((aD l).drop (0+0)).take (n*96)))=u2,(u2==u2)=true,0+0+0*96≤0,0≤0,(([]:List Value).drop (0+0)).take (0*96)=aD (aT ((([]:List Value).drop (0+0)).take (0*96))),(aT ((([]:List Value).drop (0+0)).take (0*96))).length=0,0≤4000000,AllK (aT ((([]:List Value).drop (0+0)).take (0*96))),relV H E S x t (aT ((([]:List Value).drop (0+0)).take (0*96)))=u3,0+0+n*96≤(aD l).length,n≤c,((aD l).drop (0+0)).take (n*96)=aD (aT (((aD l).drop (0+0)).take (n*96))),(aT (((aD l).drop (0+0)).take (n*96))).length=n,n≤4000000,AllK (aT (((aD l).drop (0+0)).take (n*96))),relV H E S x t (aT (((aD l).drop (0+0)).take (n*96)))=u3,(u3==u3)=true]):=by kernel_rfl
theorem fs (us vs:List Value) (x y:B32) (u1 u2 u3:Int) (g:Nat→SV):outN [0] (MR) (exec (Γ H hH E hE' S hS' ) tys 100 S3 ⟨fill g 0 (Ds H hH E hE' S hS' s t l n c ty n),ms H hH E hE' S hS' s t l n c ty us n none vs n none,[(50,[.s (cB32.enc x)]),(52,[.s (cB32.enc y)]),(59,[.n u1]),(63,[.n u1]),(64,[.b true]),(69,[.n u2]),(73,[.n u2]),(74,[.b true]),(80,[.n u3]),(84,[.n u3]),(85,[.b true])]⟩)=some (.ret,(live (MR)).map (SV.ren (piF [0])),(MR).length,(([⟨false,ty,.prv (aD l)⟩]:List Blk)).map (fun b=>some (b.ren (piF [0]))),[0+0+n*64≤us.length,n≤n,(us.drop (0+0)).take (n*64)=lvals (ay ((us.drop (0+0)).take (n*64))),(ay ((us.drop (0+0)).take (n*64))).length=n,n≤4000000,AllL (ay ((us.drop (0+0)).take (n*64))),cB32.enc (rofR H E S (ay ((us.drop (0+0)).take (n*64)))).1=cB32.enc x,0+0+n*64≤vs.length,n≤n,(vs.drop (0+0)).take (n*64)=lvals (ay ((vs.drop (0+0)).take (n*64))),(ay ((vs.drop (0+0)).take (n*64))).length=n,n≤4000000,AllL (ay ((vs.drop (0+0)).take (n*64))),cB32.enc (rofR H E S (ay ((vs.drop (0+0)).take (n*64)))).1=cB32.enc y,0+0+n*96≤(aD l).length,0<n,Room Tryd.prog 68 n,0+0+n*96≤(((aD l).drop (0+0)).take (n*96)).length,n≤n,((((aD l).drop (0+0)).take (n*96)).drop (0+0)).take (n*96)=aD (aT (((((aD l).drop (0+0)).take (n*96)).drop (0+0)).take (n*96))),(aT (((((aD l).drop (0+0)).take (n*96)).drop (0+0)).take (n*96))).length=n,n≤4000000,AllK (aT (((((aD l).drop (0+0)).take (n*96)).drop (0+0)).take (n*96))),relV H E S s t (aT (((((aD l).drop (0+0)).take (n*96)).drop (0+0)).take (n*96)))=u1,0+0+n*96≤(aD l).length,n≤c,((aD l).drop (0+0)).take (n*96)=aD (aT (((aD l).drop (0+0)).take (n*96))),(aT (((aD l).drop (0+0)).take (n*96))).length=n,n≤4000000,AllK (aT (((aD l).drop (0+0)).take (n*96))),relV H E S s t (aT (((aD l).drop (0+0)).take (n*96)))=u1,(u1==u1)=true,0+0+n*96≤(((aD l).drop (0+0)).take (n*96)).length,n≤n,((((aD l).drop (0+0)).take (n*96)).drop (0+0)).take (n*96)=aD (aT (((((aD l).drop (0+0)).take (n*96)).drop (0+0)).take (n*96))),(aT (((((aD l).drop (0+0)).take (n*96)).drop (0+0)).take (n*96))).length=n,n≤4000000,AllK (aT (((((aD l).drop (0+0)).take (n*96)).drop (0+0)).take (n*96))),relV H E S x y (aT (((((aD l).drop (0+0)).take (n*96)).drop (0+0)).take (n*96)))=u2,0+0+n*96≤(aD l).length,n≤c,((aD l).drop (0+0)).take (n*96)=aD (aT (((aD l).drop (0+0)).take (n*96))),(aT (((aD l).drop (0+0)).take (n*96))).length=n,n≤4000000,AllK (aT (((aD l).drop (0+0)).take (n*96))),relV H E S x y (aT (((aD l).drop (0+0)).take (n*96)))=u2,(u2==u2)=true,0+0+n*96≤(((aD l).drop (0+0)).take (n*96)).length,n≤n,((((aD l).drop (0+0)).take (n*96)).drop (0+0)).take (n*96)=aD (aT (((((aD l).drop (0+0)).take (n*96)).drop (0+0)).take (n*96))),(aT (((((aD l).drop (0+0)).take (n*96)).drop (0+0)).take (n*96))).length=n,n≤4000000,AllK (aT (((((aD l).drop (0+0)).take (n*96)).drop (0+0)).take (n*96))),relV H E S x t (aT (((((aD l).drop (0+0)).take (n*96)).drop (0+0)).take (n*96)))=u3,0+0+n*96≤(aD l).length,n≤c,((aD l).drop (0+0)).take (n*96)=aD (aT (((aD l).drop (0+0)).take (n*96))),(aT (((aD l).drop (0+0)).take (n*96))).length=n,n≤4000000,AllK (aT (((aD l).drop (0+0)).take (n*96))),relV H E S x t (aT (((aD l).drop (0+0)).take (n*96)))=u3,(u3==u3)=true]):=by kernel_rfl
end
theorem run (H:Nd→Nd→B32) (hH:H=hV) (E:B32) (hE':E=hE) (S:Nd→B32) (hS':S=hS) (s t:B32) (l:List Lk) (n c:Nat) (ty:TypeId) (hn:l.length=n) (hb:n≤4000000) (hc:n≤c) (hk:AllK l):av Tryd.prog GT 1 body (aF fn [cB32.enc s,cB32.enc t,.o (.a (.sld 0 0 0 n c))]) [⟨false,ty,.prv (aD l)⟩] (aB tys fn (aR (aG.enc true) .none)):=by
 refine Runs.bD aj mixed 3 (s0 H hH E hE' S hS' s t l n c ty) trivial (iM0 H hH E hE' S hS' s t l n c ty) rfl fun g=> ?_
 rw[bE]
 refine Runs.seq (Runs.seq (Runs.au aj mixed (a1 H hH E hE' S hS' s t l n c ty g) trivial (iMz H hH E hE' S hS' s t l n c ty) rfl fun g=> ?_))
 refine Runs.block ?_
 have hv:∀u:Int,(u==u)=true:=fun u=>by simp
 have lk:(aD l).length=n*96:=by rw[←hn];exact kvals_len l
 refine loop H hH E hE' S hS' s t l n c ty hn hb (fun h0 g=> ?_) (fun h0 g=> ?_) g
 ·subst h0
  obtain rfl:=List.eq_nil_of_length_eq_zero hn
  show av _ _ _ _ _ _ _
  have q:=fz H hH E hE' S hS' s t [] 0 c ty (rofR H E S []).1 (rofR H E S []).1 (relV H E S s t []) (relV H E S (rofR H E S []).1 (rofR H E S []).1 []) (relV H E S (rofR H E S []).1 t []) g
  rw[kk0,show((aD []).drop (0+0)).take (0*96)=aD [] from rfl,kkDec_vals] at q
  exact Runs.aK aj mixed [0] q ⟨rfl,rfl,Nat.zero_le _,rfl,by omega,Nat.le_refl _,rfl,rfl,by omega,AllK.nil,rfl,Nat.zero_le _,hc,rfl,rfl,by omega,AllK.nil,rfl,hv _,by omega,Nat.le_refl _,rfl,rfl,by omega,AllK.nil,rfl,Nat.zero_le _,hc,rfl,rfl,by omega,AllK.nil,rfl,hv _,by omega,Nat.le_refl _,rfl,rfl,by omega,AllK.nil,rfl,Nat.zero_le _,hc,rfl,rfl,by omega,AllK.nil,rfl,hv _,trivial⟩ (by kernel_rfl) rfl fun g=>aB.ret (zr g _) rfl
 ·show av _ _ _ _ _ _ _
  have lo:(olds l).length=n:=by rw[olds_len,hn]
  have le:(news l).length=n:=by rw[news_len,hn]
  have q:=fs H hH E hE' S hS' s t l n c ty (lvals (olds l)) (lvals (news l)) (rofR H E S (olds l)).1 (rofR H E S (news l)).1 (relV H E S s t l) (relV H E S (rofR H E S (olds l)).1 (rofR H E S (news l)).1 l) (relV H E S (rofR H E S (olds l)).1 t l) g
  rw[dtl lo,dtl le,bP,bP,dtk hn,dtk hn,kkDec_vals] at q
  exact Runs.aK aj mixed [0] q ⟨by rw[bM,lo];omega,Nat.le_refl _,rfl,lo,hb,olds_ok hk,rfl,by rw[bM,le];omega,Nat.le_refl _,rfl,le,hb,news_ok hk,rfl,by omega,h0,roomK n hb,by omega,Nat.le_refl _,rfl,hn,hb,hk,rfl,by omega,hc,rfl,hn,hb,hk,rfl,hv _,by omega,Nat.le_refl _,rfl,hn,hb,hk,rfl,by omega,hc,rfl,hn,hb,hk,rfl,hv _,by omega,Nat.le_refl _,rfl,hn,hb,hk,rfl,by omega,hc,rfl,hn,hb,hk,rfl,hv _,trivial⟩ (by kernel_rfl) rfl fun g=>aB.ret (zr g _) rfl
end w
namespace n
section
variable (H:Nd→Nd→B32)
def m0 (hH:H=hV) (E:B32) (hE':E=hE) (S:Nd→B32) (hS':S=hS) (s t:B32) (a:Option Addr):List Blk:=[⟨true,24,.lit (cB32.row s)⟩,⟨true,24,.lit (cB32.row t)⟩]
def M0 (hH:H=hV) (E:B32) (hE':E=hE) (S:Nd→B32) (hS':S=hS) (s t:B32) (a:Option Addr):List (Option SV):=aC 87 0 [(2,.o (.a (.v (.slice a 0 0)))),(3,.o (.a (.ptr 0 0))),(4,.o (.a (.ptr 1 0))),(7,.o (.a (.v (.slice none 0 0)))),(8,.o (.a (.v (.slice none 0 0))))]
def Mz (hH:H=hV) (E:B32) (hE':E=hE) (S:Nd→B32) (hS':S=hS) (s t:B32) (a:Option Addr):List (Option SV):=aC 87 0 [(2,.o (.a (.v (.slice a 0 0)))),(3,.o (.a (.ptr 0 0))),(4,.o (.a (.ptr 1 0))),(7,.o (.a (.v (.slice none 0 0)))),(8,.o (.a (.v (.slice none 0 0)))),(16,.o (.a (int1 .i64 0))),(17,.o (.a (int1 .i64 0)))]
def Dz (hH:H=hV) (E:B32) (hE':E=hE) (S:Nd→B32) (hS':S=hS) (s t:B32) (a:Option Addr):List (Option SV):=aC 87 0 [(2,.o (.a (.v (.slice a 0 0)))),(3,.o (.a (.ptr 0 0))),(4,.o (.a (.ptr 1 0))),(7,.o (.a (.v (.slice none 0 0)))),(8,.o (.a (.v (.slice none 0 0))))]
theorem iM0 (hH:H=hV) (E:B32) (hE':E=hE) (S:Nd→B32) (hS':S=hS) (s t:B32) (a:Option Addr):aA (m0 H hH E hE' S hS' s t a ).length (M0 H hH E hE' S hS' s t a ) (m0 H hH E hE' S hS' s t a )=true:=by kernel_rfl
theorem iMz (hH:H=hV) (E:B32) (hE':E=hE) (S:Nd→B32) (hS':S=hS) (s t:B32) (a:Option Addr):aA (m0 H hH E hE' S hS' s t a ).length (Mz H hH E hE' S hS' s t a ) (m0 H hH E hE' S hS' s t a )=true:=by kernel_rfl
theorem iDz (hH:H=hV) (E:B32) (hE':E=hE) (S:Nd→B32) (hS':S=hS) (s t:B32) (a:Option Addr):aA (m0 H hH E hE' S hS' s t a ).length (Dz H hH E hE' S hS' s t a ) (m0 H hH E hE' S hS' s t a )=true:=by kernel_rfl
theorem a1 (hH:H=hV) (E:B32) (hE':E=hE) (S:Nd→B32) (hS':S=hS) (s t:B32) (a:Option Addr) (g:Nat→SV):outX (m0 H hH E hE' S hS' s t a ).length (Mz H hH E hE' S hS' s t a ) (exec ([]:Cons Tryd.prog GT) tys 300 A2 ⟨fill g 0 (M0 H hH E hE' S hS' s t a ),m0 H hH E hE' S hS' s t a ,[]⟩)=some (.normal,live (Mz H hH E hE' S hS' s t a ),(Mz H hH E hE' S hS' s t a ).length,m0 H hH E hE' S hS' s t a ,[]):=by kernel_rfl
theorem oz (hH:H=hV) (E:B32) (hE':E=hE) (S:Nd→B32) (hS':S=hS) (s t:B32) (a:Option Addr) (g:Nat→SV):outX (m0 H hH E hE' S hS' s t a ).length (Dz H hH E hE' S hS' s t a ) (exec ([]:Cons Tryd.prog GT) tys 300 L ⟨fill g 0 (Mz H hH E hE' S hS' s t a ),m0 H hH E hE' S hS' s t a ,[]⟩)=some ((.exit 0),live (Dz H hH E hE' S hS' s t a ),(Dz H hH E hE' S hS' s t a ).length,m0 H hH E hE' S hS' s t a ,[]):=by kernel_rfl
theorem s0 (hH:H=hV) (E:B32) (hE':E=hE) (S:Nd→B32) (hS':S=hS) (s t:B32) (a:Option Addr):outX (m0 H hH E hE' S hS' s t a ).length (M0 H hH E hE' S hS' s t a ) (exec ΓA tys 300 (cpre 3 body) ⟨aF fn [cB32.enc s,cB32.enc t,.o (.a (.v (.slice a 0 0)))],([]:List Blk),[]⟩)=some (.normal,live (M0 H hH E hE' S hS' s t a ),(M0 H hH E hE' S hS' s t a ).length,m0 H hH E hE' S hS' s t a ,[]):=by kernel_rfl
end
theorem zr (g:Nat→SV) (mm:Nat→Option Blk):eRes tys (fill g 0 MR) mm fn.results.toList=some [.a (bool1 true)]:=by kernel_rfl
theorem fz (H:Nd→Nd→B32) (hH:H=hV) (E:B32) (hE':E=hE) (S:Nd→B32) (hS':S=hS) (s t:B32) (a:Option Addr) (x y:B32) (u1 u2 u3:Int) (g:Nat→SV):outN [] (MR) (exec (Γ H hH E hE' S hS' ) tys 100 S3 ⟨fill g 0 (Dz H hH E hE' S hS' s t a ),m0 H hH E hE' S hS' s t a ,[(50,[.s (cB32.enc x)]),(52,[.s (cB32.enc y)]),(55,[.dyn]),(59,[.n u1]),(63,[.n u1]),(64,[.b true]),(69,[.n u2]),(73,[.n u2]),(74,[.b true]),(80,[.n u3]),(84,[.n u3]),(85,[.b true])]⟩)=some (.ret,(live (MR)).map (SV.ren (piF [])),(MR).length,(([]:List Blk)).map (fun b=>some (b.ren (piF []))),[cB32.enc (rofR H E S []).1=cB32.enc x,cB32.enc (rofR H E S []).1=cB32.enc y,0=0,0+0+0*96≤0,0≤0,(([]:List Value).drop (0+0)).take (0*96)=aD (aT ((([]:List Value).drop (0+0)).take (0*96))),(aT ((([]:List Value).drop (0+0)).take (0*96))).length=0,0≤4000000,AllK (aT ((([]:List Value).drop (0+0)).take (0*96))),relV H E S s t (aT ((([]:List Value).drop (0+0)).take (0*96)))=u1,relV H E S s t []=u1,(u1==u1)=true,0+0+0*96≤0,0≤0,(([]:List Value).drop (0+0)).take (0*96)=aD (aT ((([]:List Value).drop (0+0)).take (0*96))),(aT ((([]:List Value).drop (0+0)).take (0*96))).length=0,0≤4000000,AllK (aT ((([]:List Value).drop (0+0)).take (0*96))),relV H E S x y (aT ((([]:List Value).drop (0+0)).take (0*96)))=u2,relV H E S x y []=u2,(u2==u2)=true,0+0+0*96≤0,0≤0,(([]:List Value).drop (0+0)).take (0*96)=aD (aT ((([]:List Value).drop (0+0)).take (0*96))),(aT ((([]:List Value).drop (0+0)).take (0*96))).length=0,0≤4000000,AllK (aT ((([]:List Value).drop (0+0)).take (0*96))),relV H E S x t (aT ((([]:List Value).drop (0+0)).take (0*96)))=u3,relV H E S x t []=u3,(u3==u3)=true]):=by kernel_rfl
theorem run (H:Nd→Nd→B32) (hH:H=hV) (E:B32) (hE':E=hE) (S:Nd→B32) (hS':S=hS) (s t:B32) (a:Option Addr):av Tryd.prog GT 0 body (aF fn [cB32.enc s,cB32.enc t,.o (.a (.v (.slice a 0 0)))]) [] (aB tys fn (aR (aG.enc true) .none)):=by
 refine Runs.bD aj mixed 3 (s0 H hH E hE' S hS' s t a) trivial (iM0 H hH E hE' S hS' s t a) rfl fun g=> ?_
 rw[bE]
 refine Runs.seq (Runs.seq (Runs.au aj mixed (a1 H hH E hE' S hS' s t a g) trivial (iMz H hH E hE' S hS' s t a) rfl fun g=> ?_))
 refine Runs.block ?_
 have hv:∀u:Int,(u==u)=true:=fun u=>by simp
 refine Runs.loopX (fun(_:Unit)=>Mz H hH E hE' S hS' s t a) (fun _=>m0 H hH E hE' S hS' s t a) (fun _=>True) (fun _=>0) ?_ () trivial g
 rintro _ g _
 refine Runs.au aj mixed (oz H hH E hE' S hS' s t a g) trivial (iDz H hH E hE' S hS' s t a) rfl fun g=> ?_
 show av _ _ _ _ _ _ _
 have q:=fz H hH E hE' S hS' s t a (rofR H E S []).1 (rofR H E S []).1 (relV H E S s t []) (relV H E S (rofR H E S []).1 (rofR H E S []).1 []) (relV H E S (rofR H E S []).1 t []) g
 rw[kk0] at q
 exact Runs.aK aj mixed [] q ⟨rfl,rfl,rfl,by omega,Nat.le_refl _,rfl,rfl,by omega,AllK.nil,rfl,rfl,hv _,by omega,Nat.le_refl _,rfl,rfl,by omega,AllK.nil,rfl,rfl,hv _,by omega,Nat.le_refl _,rfl,rfl,by omega,AllK.nil,rfl,rfl,hv _,trivial⟩ (by kernel_rfl) rfl fun g=>aB.ret (zr g _) rfl
end n
end lrl
end Go.Proofs.YtdccehmekkcheaaDoor

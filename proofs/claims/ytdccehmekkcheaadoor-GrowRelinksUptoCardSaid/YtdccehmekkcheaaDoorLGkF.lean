/- Package grow: Check: walk, contract. -/
import Derived.Test.YtdccehmekkcheaaDoorLGsP
namespace Go.Proofs.YtdccehmekkcheaaDoor
open Go Go.Eng Go.RowKit
set_option linter.unusedVariables false
set_option linter.unusedSimpArgs false
set_option maxRecDepth 100000
def chkV (x y:B32 × Int) (s t:B32):Int:=bif x.2==0&&y.2==0 then (bif eqL x.1.to s.to&&eqL y.1.to t.to then 0 else 3) else 1
noncomputable def chkT (H:Nd→Nd→B32) (E:B32) (S:Nd→B32) (s t:B32) (V:List Nd) (B:List Lf):Int:=chkV (rootV H E S V) (rootV H E S (sortL (V++tndV B))) s t
theorem root_01 (H:Nd→Nd→B32) (E:B32) (S:Nd→B32) (l:List Nd):(rootV H E S l).2=0∨(rootV H E S l).2=1:=by
 unfold rootV
 cases aM l with
 | true=>left;rw[cond_true];cases Nat.beq l.length 0<;>rfl
 | false=>right;rfl
theorem aQ.app {A B:List Nd} (hA:aQ A) (hB:aQ B):aQ (A++B):=fun z hz=>(List.mem_append.1 hz).elim (hA z) (hB z)
theorem aQ.nil:aQ []:=fun z hz=>by cases hz
namespace gck
noncomputable abbrev fn:=Tryd.f46
noncomputable def body:Code:=bq fn
noncomputable def R1:Code:=cs1 (csuf 1 body)
noncomputable def S2:Code:=csuf 2 body
noncomputable def T:Code:=csuf 3 S2
noncomputable def i1:Nat:=match R1 with | .region i _ _=>i | _=>0
theorem suf_1:csuf 1 body= .seq (.region i1 (opsOf R1) false) S2:=by kernel_rfl
theorem nil0:(opsOf R1).toList.drop 6=[]:=by kernel_rfl
noncomputable def Γ1:Cons Tryd.prog GT:=[tnd.con]
noncomputable def Γ2 (H:Nd→Nd→B32) (hH:H=hV) (E:B32) (hE':E=hE) (S:Nd→B32) (hS':S=hS):Cons Tryd.prog GT:=[sort_con,trt.con H hH E hE' S hS' ]
namespace nn
section
variable (H:Nd→Nd→B32)
def m0 (hH:H=hV) (E:B32) (hE':E=hE) (S:Nd→B32) (hS':S=hS) (s t:B32) (a:Option Addr) (b:Option Addr):List Blk:=[⟨true,24,.lit (cB32.row s)⟩,⟨true,24,.lit (cB32.row t)⟩]
def mf (hH:H=hV) (E:B32) (hE':E=hE) (S:Nd→B32) (hS':S=hS) (s t:B32) (a:Option Addr) (b:Option Addr) (x y:B32):List Blk:=[⟨true,24,.lit (cB32.row s)⟩,⟨true,24,.lit (cB32.row t)⟩,⟨true,24,.lit (cB32.row x)⟩,⟨true,24,.lit (cB32.row y)⟩]
def M0 (hH:H=hV) (E:B32) (hE':E=hE) (S:Nd→B32) (hS':S=hS) (s t:B32) (a:Option Addr) (b:Option Addr):List (Option SV):=aC 47 0 [(2,.o (.a (.v (.slice a 0 0)))),(3,.o (.a (.v (.slice b 0 0)))),(4,.o (.a (.ptr 0 0))),(5,.o (.a (.ptr 1 0)))]
theorem i0 (hH:H=hV) (E:B32) (hE':E=hE) (S:Nd→B32) (hS':S=hS) (s t:B32) (a:Option Addr) (b:Option Addr):aA (m0 H hH E hE' S hS' s t a b ).length (M0 H hH E hE' S hS' s t a b ) (m0 H hH E hE' S hS' s t a b )=true:=by kernel_rfl
def Mz (hH:H=hV) (E:B32) (hE':E=hE) (S:Nd→B32) (hS':S=hS) (s t:B32) (a:Option Addr) (b:Option Addr):List (Option SV):=aC 47 0 [(2,.o (.a (.v (.slice a 0 0)))),(4,.o (.a (.ptr 0 0))),(5,.o (.a (.ptr 1 0))),(9,.o (.a (.v (.slice none 0 0))))]
theorem iz (hH:H=hV) (E:B32) (hE':E=hE) (S:Nd→B32) (hS':S=hS) (s t:B32) (a:Option Addr) (b:Option Addr):aA (m0 H hH E hE' S hS' s t a b ).length (Mz H hH E hE' S hS' s t a b ) (m0 H hH E hE' S hS' s t a b )=true:=by kernel_rfl
def M5 (hH:H=hV) (E:B32) (hE':E=hE) (S:Nd→B32) (hS':S=hS) (s t:B32) (a:Option Addr) (b:Option Addr) (e f:Int):List (Option SV):=aC 47 0 [(4,.o (.a (.ptr 0 0))),(5,.o (.a (.ptr 1 0))),(10,.o (.a (.ptr 2 0))),(11,.o (.a (int1 .i64 e))),(12,.o (.a (.ptr 3 0))),(13,.o (.a (int1 .i64 f)))]
theorem i5 (hH:H=hV) (E:B32) (hE':E=hE) (S:Nd→B32) (hS':S=hS) (s t:B32) (a:Option Addr) (b:Option Addr) (e f:Int) (x y:B32):aA (mf H hH E hE' S hS' s t a b x y).length (M5 H hH E hE' S hS' s t a b e f) (mf H hH E hE' S hS' s t a b x y)=true:=by kernel_rfl
def MR (hH:H=hV) (E:B32) (hE':E=hE) (S:Nd→B32) (hS':S=hS) (s t:B32) (a:Option Addr) (b:Option Addr) (e:Int):List (Option SV):=aC 47 0 [(8,.o (.a (int1 .i64 e)))]
def mo (hH:H=hV) (E:B32) (hE':E=hE) (S:Nd→B32) (hS':S=hS) (s t:B32) (a:Option Addr) (b:Option Addr):List Blk:=[]
theorem iR (hH:H=hV) (E:B32) (hE':E=hE) (S:Nd→B32) (hS':S=hS) (s t:B32) (a:Option Addr) (b:Option Addr) (e:Int):aA (mo H hH E hE' S hS' s t a b ).length (MR H hH E hE' S hS' s t a b e) (mo H hH E hE' S hS' s t a b )=true:=by kernel_rfl
theorem s0 (hH:H=hV) (E:B32) (hE':E=hE) (S:Nd→B32) (hS':S=hS) (s t:B32) (a:Option Addr) (b:Option Addr):outX (m0 H hH E hE' S hS' s t a b ).length (M0 H hH E hE' S hS' s t a b ) (exec Γ1 tys 300 (cpre 1 body) ⟨aF fn [cB32.enc s,cB32.enc t,.o (.a (.v (.slice a 0 0))),.o (.a (.v (.slice b 0 0)))],[],[]⟩)=some (.normal,live (M0 H hH E hE' S hS' s t a b ),(M0 H hH E hE' S hS' s t a b ).length,m0 H hH E hE' S hS' s t a b ,[]):=by kernel_rfl
theorem z (hH:H=hV) (E:B32) (hE':E=hE) (S:Nd→B32) (hS':S=hS) (s t:B32) (a:Option Addr) (b:Option Addr) (g:Nat→SV):outNL [0,1] (Mz H hH E hE' S hS' s t a b ) (runOps Γ1 tys (opsOf R1).toList (((opsOf R1).toList.drop 0).take 6) ⟨fill g 0 (M0 H hH E hE' S hS' s t a b ),m0 H hH E hE' S hS' s t a b ,[(15,[.dyn]),(18,[.dyn])]⟩)=some ((live (Mz H hH E hE' S hS' s t a b )).map (SV.ren (piF [0,1])),(Mz H hH E hE' S hS' s t a b ).length,(m0 H hH E hE' S hS' s t a b ).map (fun b=>some (b.ren (piF [0,1]))),[0=0,0+0+0*65≤(ah (tndV [])).length,0=0]):=by kernel_rfl
theorem bz (hH:H=hV) (E:B32) (hE':E=hE) (S:Nd→B32) (hS':S=hS) (s t:B32) (a:Option Addr) (b:Option Addr) (x:B32) (e:Int) (y:B32) (f:Int) (g:Nat→SV):outN [0,1,2,3] (M5 H hH E hE' S hS' s t a b e f) (exec (Γ2 H hH E hE' S hS' ) tys 100 (cpre 3 S2) ⟨fill g 0 (Mz H hH E hE' S hS' s t a b ),m0 H hH E hE' S hS' s t a b ,[(23,[.s (hsS (x,e))]),(28,[.s (hsS (y,f))])]⟩)=some (.normal,(live (M5 H hH E hE' S hS' s t a b e f)).map (SV.ren (piF [0,1,2,3])),(M5 H hH E hE' S hS' s t a b e f).length,(mf H hH E hE' S hS' s t a b x y).map (fun b=>some (b.ren (piF [0,1,2,3]))),[hsS (E,0)=hsS (x,e),hsS (E,0)=hsS (y,f)]):=by kernel_rfl
theorem t1 (hH:H=hV) (E:B32) (hE':E=hE) (S:Nd→B32) (hS':S=hS) (s t:B32) (a:Option Addr) (b:Option Addr) (x y:B32) (f:Int) (g:Nat→SV):outX (mo H hH E hE' S hS' s t a b ).length (MR H hH E hE' S hS' s t a b 1) (exec Γ1 tys 300 T ⟨fill g 0 (M5 H hH E hE' S hS' s t a b 1 f),mf H hH E hE' S hS' s t a b x y,[]⟩)=some (.ret,live (MR H hH E hE' S hS' s t a b 1),(MR H hH E hE' S hS' s t a b 1).length,mo H hH E hE' S hS' s t a b ,[]):=by kernel_rfl
theorem t2 (hH:H=hV) (E:B32) (hE':E=hE) (S:Nd→B32) (hS':S=hS) (s t:B32) (a:Option Addr) (b:Option Addr) (x y:B32) (g:Nat→SV):outX (mo H hH E hE' S hS' s t a b ).length (MR H hH E hE' S hS' s t a b 1) (exec Γ1 tys 300 T ⟨fill g 0 (M5 H hH E hE' S hS' s t a b 0 1),mf H hH E hE' S hS' s t a b x y,[]⟩)=some (.ret,live (MR H hH E hE' S hS' s t a b 1),(MR H hH E hE' S hS' s t a b 1).length,mo H hH E hE' S hS' s t a b ,[]):=by kernel_rfl
theorem t3 (hH:H=hV) (E:B32) (hE':E=hE) (S:Nd→B32) (hS':S=hS) (s t:B32) (a:Option Addr) (b:Option Addr) (x y:B32) (g:Nat→SV):outX (mo H hH E hE' S hS' s t a b ).length (MR H hH E hE' S hS' s t a b 3) (exec Γ1 tys 300 T ⟨fill g 0 (M5 H hH E hE' S hS' s t a b 0 0),mf H hH E hE' S hS' s t a b x y,[(41,[.b true])]⟩)=some (.ret,live (MR H hH E hE' S hS' s t a b 3),(MR H hH E hE' S hS' s t a b 3).length,mo H hH E hE' S hS' s t a b ,[(!eqL x.to s.to)=true]):=by kernel_rfl
theorem t4 (hH:H=hV) (E:B32) (hE':E=hE) (S:Nd→B32) (hS':S=hS) (s t:B32) (a:Option Addr) (b:Option Addr) (x y:B32) (g:Nat→SV):outX (mo H hH E hE' S hS' s t a b ).length (MR H hH E hE' S hS' s t a b 3) (exec Γ1 tys 300 T ⟨fill g 0 (M5 H hH E hE' S hS' s t a b 0 0),mf H hH E hE' S hS' s t a b x y,[(41,[.b false]),(45,[.b true])]⟩)=some (.ret,live (MR H hH E hE' S hS' s t a b 3),(MR H hH E hE' S hS' s t a b 3).length,mo H hH E hE' S hS' s t a b ,[(!eqL x.to s.to)=false,(!eqL y.to t.to)=true]):=by kernel_rfl
theorem t5 (hH:H=hV) (E:B32) (hE':E=hE) (S:Nd→B32) (hS':S=hS) (s t:B32) (a:Option Addr) (b:Option Addr) (x y:B32) (g:Nat→SV):outX (mo H hH E hE' S hS' s t a b ).length (MR H hH E hE' S hS' s t a b 0) (exec Γ1 tys 300 T ⟨fill g 0 (M5 H hH E hE' S hS' s t a b 0 0),mf H hH E hE' S hS' s t a b x y,[(41,[.b false]),(45,[.b false])]⟩)=some (.ret,live (MR H hH E hE' S hS' s t a b 0),(MR H hH E hE' S hS' s t a b 0).length,mo H hH E hE' S hS' s t a b ,[(!eqL x.to s.to)=false,(!eqL y.to t.to)=false]):=by kernel_rfl
theorem zr (hH:H=hV) (E:B32) (hE':E=hE) (S:Nd→B32) (hS':S=hS) (s t:B32) (a:Option Addr) (b:Option Addr) (e:Int) (mm:Nat→Option Blk) (g:Nat→SV):eRes tys (fill g 0 (MR H hH E hE' S hS' s t a b e)) mm fn.results.toList=some [.a (int1 .i64 e)]:=by kernel_rfl
theorem tail (hH:H=hV) (E:B32) (hE':E=hE) (S:Nd→B32) (hS':S=hS) (s t:B32) (a:Option Addr) (b:Option Addr) (x y:B32 × Int) (hx:x.2=0∨x.2=1) (hy:y.2=0∨y.2=1) (g:Nat→SV):av Tryd.prog GT 0 T (fill g 0 (M5 H hH E hE' S hS' s t a b x.2 y.2)) (mf H hH E hE' S hS' s t a b x.1 y.1) (aB tys fn (aR (.o (.a (int1 .i64 (chkV x y s t)))) .none)):=by
 obtain⟨x,e⟩:=x
 obtain⟨y,f⟩:=y
 rcases hx with rfl | rfl
 ·rcases hy with rfl | rfl
  ·cases h1:eqL x.to s.to with
   | false=>
    refine Runs.au aj mixed (t3 H hH E hE' S hS' s t a b x y g) ⟨by rw[h1];rfl,trivial⟩ (iR H hH E hE' S hS' s t a b _) rfl fun g=>aB.ret (zr H hH E hE' S hS' s t a b _ _ g) ?_
    unfold chkV;rw[h1];rfl
   | true=>
    cases h2:eqL y.to t.to with
    | false=>
     refine Runs.au aj mixed (t4 H hH E hE' S hS' s t a b x y g) ⟨by rw[h1];rfl,by rw[h2];rfl,trivial⟩ (iR H hH E hE' S hS' s t a b _) rfl fun g=>aB.ret (zr H hH E hE' S hS' s t a b _ _ g) ?_
     unfold chkV;rw[h1,h2];rfl
    | true=>
     refine Runs.au aj mixed (t5 H hH E hE' S hS' s t a b x y g) ⟨by rw[h1];rfl,by rw[h2];rfl,trivial⟩ (iR H hH E hE' S hS' s t a b _) rfl fun g=>aB.ret (zr H hH E hE' S hS' s t a b _ _ g) ?_
     unfold chkV;rw[h1,h2];rfl
  ·exact Runs.au aj mixed (t2 H hH E hE' S hS' s t a b x y g) trivial (iR H hH E hE' S hS' s t a b _) rfl fun g=>aB.ret (zr H hH E hE' S hS' s t a b _ _ g) rfl
 ·exact Runs.au aj mixed (t1 H hH E hE' S hS' s t a b x y f g) trivial (iR H hH E hE' S hS' s t a b _) rfl fun g=>aB.ret (zr H hH E hE' S hS' s t a b _ _ g) rfl
theorem backz (hH:H=hV) (E:B32) (hE':E=hE) (S:Nd→B32) (hS':S=hS) (s t:B32) (a:Option Addr) (b:Option Addr) (g:Nat→SV):av Tryd.prog GT 0 S2 (fill g 0 (Mz H hH E hE' S hS' s t a b)) (m0 H hH E hE' S hS' s t a b) (aB tys fn (aR (.o (.a (int1 .i64 (chkV (rootV H E S []) (E,0) s t)))) .none)):=by
 have q:=bz H hH E hE' S hS' s t a b (rootV H E S []).1 (rootV H E S []).2 E 0 g
 refine Runs.of_outNP aj mixed 3 [0,1,2,3] q ⟨rfl,rfl,trivial⟩ (i5 H hH E hE' S hS' s t a b _ _ _ _) (by kernel_rfl) fun g=> ?_
 exact tail H hH E hE' S hS' s t a b (rootV H E S []) (E,0) (root_01 H E S _) (.inl rfl) g
theorem run (hH:H=hV) (E:B32) (hE':E=hE) (S:Nd→B32) (hS':S=hS) (s t:B32) (a:Option Addr) (b:Option Addr):av Tryd.prog GT 0 body (aF fn [cB32.enc s,cB32.enc t,.o (.a (.v (.slice a 0 0))),.o (.a (.v (.slice b 0 0)))]) [] (aB tys fn (aR (.o (.a (int1 .i64 (chkT H E S s t [] [])))) .none)):=by
 refine Runs.bD aj mixed 1 (s0 H hH E hE' S hS' s t a b) trivial (i0 H hH E hE' S hS' s t a b) rfl fun g=> ?_
 rw[suf_1]
 refine Runs.seq (Runs.region ?_)
 unfold chkT
 refine aY.aK aj 6 [0,1] (z H hH E hE' S hS' s t a b g) ⟨rfl,by omega,rfl,trivial⟩ (iz H hH E hE' S hS' s t a b) rfl fun g=> ?_
 rw[nil0,tnd_nil,List.append_nil,show sortL []=[] from List.eq_nil_of_length_eq_zero (sortL_len []),show rootV H E S []=(E,0) from rfl]
 exact aY.nil (backz H hH E hE' S hS' s t a b g)
end
end nn
noncomputable def spec0 (H:Nd→Nd→B32) (E:B32) (S:Nd→B32):List PArg→Option (SV × LEff × Cst)
 | [.val u,.val v,.val (.o (.a (.v (.slice a 0 0)))),.val (.o (.a (.v (.slice b 0 0))))]=>match cB32.dec u,cB32.dec v with
  | some s,some t=>some (.o (.a (int1 .i64 (chkT H E S s t [] []))),.none,[])
  | _,_=>none
 | _=>none
noncomputable def con0 (H:Nd→Nd→B32) (hH:H=hV) (E:B32) (hE':E=hE) (S:Nd→B32) (hS':S=hS):Con Tryd.prog GT:=Con.parts aj 46 fn Tryd.func46 (by kernel_rfl) (c:=body) (by kernel_rfl) [.val,.val,.winv 65,.winv 64] (spec0 H E S)
 (fun ps r e p h hp=>by
  unfold spec0 at h
  split at h
  ·split at h<;>cases h
   exact⟨rfl,fun b hb=>by simp[aN,PArg.blk] at hb⟩
  ·cases h)
 (fun ps r e p cap h hp hi=>by
  unfold spec0 at h
  split at h
  ·rename_i u v a b
   split at h<;>cases h
   rename_i s t k1 k2
   have e1:=cB32.ok _ _ k1
   have e2:=cB32.ok _ _ k2
   subst e1 e2
   exact nn.run H hH E hE' S hS' s t a b
  ·cases h)
end gck
end Go.Proofs.YtdccehmekkcheaaDoor

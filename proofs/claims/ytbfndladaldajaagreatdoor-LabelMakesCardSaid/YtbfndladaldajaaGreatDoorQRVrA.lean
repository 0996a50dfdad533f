/- Package beaconref06: Input, challenge, Parts, Output: walks, contracts. -/
import Derived.Test.YtbfndladaldajaaGreatDoorQMW
import Derived.Test.YtbfndladaldajaaGreatDoorQCatK
import Derived.Test.YtbfndladaldajaaGreatDoorQMU
namespace Go.Proofs.YtbfndladaldajaaGreatDoor
open Go Go.Eng Go.RowKit
set_option linter.unusedVariables false
set_option linter.unusedSimpArgs false
set_option maxRecDepth 100000
noncomputable def joinK_con:Con Tryz.prog G2:=Con.or jn.wwww.con (Con.or jn.wwvw.con (Con.or jn.www.con jn.wwwwwww.con rfl jn.www.con_fr) rfl jn.wwvw.con_fr) rfl jn.wwww.con_fr
theorem inB_cat (b:B32) (m:List Int) (c:Int):catL [[3,1],b.to,m,[c,0]]=inB b m c:=by
 unfold inB
 simp only[catL,List.append_nil,List.append_assoc]
def flagI (q:B32) (ok:Bool):SV:= .t [.g (cB32.row q),.a (bool1 ok)]
noncomputable def rinR (b:B32) (m:List Int):SV:=bif inOk b m then flagI (encP (inP b m)) true else flagI aY false
theorem rinR_ids (b:B32) (m:List Int):(rinR b m).ids=[]:=by
 unfold rinR
 cases inOk b m<;>rfl
theorem rin_stop {b:B32} {m:List Int} (h:∀i,i<256→goodV b m i=false):rinR b m=flagI aY false:=by
 have e:fndV b m=256:=by
  have:=fnd_no (f:=goodV b m) (k:=256) (c:=0) (fun i _ h2=>h i (by omega))
  exact this
 have e2:inOk b m=false:=by unfold inOk;rw[e];rfl
 unfold rinR
 rw[e2,cond_false]
theorem rin_hit {b:B32} {m:List Int} {t:Nat} (h:∀i,i<t→goodV b m i=false) (ht:goodV b m t=true) (hl:t<256):rinR b m=flagI (encP (clrP (decP (hitV b m t)))) true:=by
 obtain⟨e,e2⟩:=in_hit' h ht hl
 unfold rinR
 rw[e,cond_true,e2]
theorem clear_key {b:B32} (hb:BOk b):bN b=true→dw b=encP (clrP (decP b)):=fun h=>by
 have e:=(eqB_iff _ _).1 (all_clear hb)
 rw[←e]
 unfold pclearB
 rw[h]
theorem err_key {b:B32} (hb:BOk b):errOf (qOk b)=(bif bN b then 0 else 2):=(small_key hb).1
namespace rin
noncomputable abbrev fn:=Tryz.f62
noncomputable def body:Code:=bS fn
noncomputable def T1:Code:=csuf 1 body
noncomputable def A:Code:=cs1 (cs1 T1)
noncomputable def L:Code:=cL (cB (cs2 (cs1 T1)))
noncomputable def D:Code:=cs2 T1
noncomputable def Γ:Cons Tryz.prog G2:=[joinK_con,r512_con,qclear_con.lift gx_g2,qzero_con.lift gx_g2]
theorem t1_eq:csuf 1 body= .seq (.seq A (.block 0 (.loop L))) D:=by kernel_rfl
namespace w
def M0 (ys:List Int) (n c:Nat) (ty:TypeId) (b:B32):List (Option SV):=aJ 41 0 [(1,.o (.a (.sld 0 0 0 n c))),(2,.o (.a (.ptr 1 0))),(4,.o (.a (.ptr 2 0))),(5,aN.enc false)]
def M1 (ys:List Int) (n c:Nat) (ty:TypeId) (b:B32) (t:Nat):List (Option SV):=aJ 41 0 [(1,.o (.a (.sld 0 0 0 n c))),(2,.o (.a (.ptr 1 0))),(4,.o (.a (.ptr 2 0))),(5,aN.enc false),(11,(cInt .i64).enc (t:Int))]
def MY (ys:List Int) (n c:Nat) (ty:TypeId) (b:B32):List (Option SV):=aJ 41 0 [(4,.o (.a (.ptr 2 0))),(5,aN.enc false)]
def MZ (ys:List Int) (n c:Nat) (ty:TypeId) (b:B32):List (Option SV):=aJ 41 0 [(4,.o (.a (.ptr 2 0))),(5,aN.enc true)]
section
variable (ys:List Int)
def mem (n c:Nat) (ty:TypeId) (b:B32) (q:B32):List Blk:=[⟨false,ty,.pre .u8 ys⟩]++[⟨true,22,.lit (cB32.row b)⟩,⟨true,22,.lit (cB32.row q)⟩]
theorem ids0 (n c:Nat) (ty:TypeId) (b:B32) (q:B32):aF (mem ys n c ty b q).length (M0 ys n c ty b ) (mem ys n c ty b q)=true:=by kernel_rfl
theorem ids1 (n c:Nat) (ty:TypeId) (b:B32) (q:B32) (t:Nat):aF (mem ys n c ty b q).length (M1 ys n c ty b t) (mem ys n c ty b q)=true:=by kernel_rfl
theorem idsY (n c:Nat) (ty:TypeId) (b:B32) (q:B32):aF (mem ys n c ty b q).length (MY ys n c ty b ) (mem ys n c ty b q)=true:=by kernel_rfl
theorem idsZ (n c:Nat) (ty:TypeId) (b:B32) (q:B32):aF (mem ys n c ty b q).length (MZ ys n c ty b ) (mem ys n c ty b q)=true:=by kernel_rfl
theorem s0 (n c:Nat) (ty:TypeId) (b:B32):outX (mem ys n c ty b aY).length (M0 ys n c ty b ) (exec Γ tys 100 (cpre 1 body) ⟨aA fn [cB32.enc b,.o (.a (.sld 0 0 0 n c))],[⟨false,ty,.pre .u8 ys⟩],[]⟩)=some (.normal,live (M0 ys n c ty b ),(M0 ys n c ty b ).length,mem ys n c ty b aY,[]):=by kernel_rfl
theorem ini (n c:Nat) (ty:TypeId) (b:B32) (g:Nat→SV):outX (mem ys n c ty b aY).length (M1 ys n c ty b 0) (exec Γ tys 100 A ⟨fill g 0 (M0 ys n c ty b ),mem ys n c ty b aY,[]⟩)=some (.normal,live (M1 ys n c ty b 0),(M1 ys n c ty b 0).length,mem ys n c ty b aY,[]):=by kernel_rfl
theorem n1 (n c:Nat) (ty:TypeId) (b:B32) (t:Nat) (d:B64) (Q:B32) (g:Nat→SV):outX (mem ys n c ty b aY).length (M1 ys n c ty b (t+1)) (exec Γ tys 100 L ⟨fill g 0 (M1 ys n c ty b t),mem ys n c ty b aY,[(12,[.b true]),(18,[.n (t:Int)]),(22,[.s (cB64.enc d)]),(28,[.s (bM Q 2)]),(39,[.n ((t+1:Nat):Int)])]⟩)=some (.normal,live (M1 ys n c ty b (t+1)),(M1 ys n c ty b (t+1)).length,mem ys n c ty b aY,[decide ((t:Int)<256)=true,IntKind.u8.wrap (t:Int)=(t:Int),0+2≤2,0+32≤32,0+n≤ys.length,0+2≤2,0<([[3,1],b.to,((ys.drop 0).take n),[(t:Int),0]].headD []).length,(catL [[3,1],b.to,((ys.drop 0).take n),[(t:Int),0]]).length≤140737488355328,0+(catL [[3,1],b.to,((ys.drop 0).take n),[(t:Int),0]]).length≤(catL [[3,1],b.to,((ys.drop 0).take n),[(t:Int),0]]).length,(catL [[3,1],b.to,((ys.drop 0).take n),[(t:Int),0]]).length≤(catL [[3,1],b.to,((ys.drop 0).take n),[(t:Int),0]]).length,(catL [[3,1],b.to,((ys.drop 0).take n),[(t:Int),0]]).length≤140737488354000,cB64.enc (aS (((catL [[3,1],b.to,((ys.drop 0).take n),[(t:Int),0]]).drop 0).take (catL [[3,1],b.to,((ys.drop 0).take n),[(t:Int),0]]).length))=cB64.enc d,32≤64,32≤32,BOk (lo64 d),bM (dw (lo64 d)) (errOf (qOk (lo64 d)))=bM Q 2,IntKind.i64.wrap ((t:Int)+1)=((t+1:Nat):Int)]):=by kernel_rfl
theorem n2 (n c:Nat) (ty:TypeId) (b:B32) (t:Nat) (d:B64) (Q:B32) (g:Nat→SV):outX (mem ys n c ty b aY).length (M1 ys n c ty b (t+1)) (exec Γ tys 100 L ⟨fill g 0 (M1 ys n c ty b t),mem ys n c ty b aY,[(12,[.b true]),(18,[.n (t:Int)]),(22,[.s (cB64.enc d)]),(28,[.s (bM Q 0)]),(36,[.b false]),(39,[.n ((t+1:Nat):Int)])]⟩)=some (.normal,live (M1 ys n c ty b (t+1)),(M1 ys n c ty b (t+1)).length,mem ys n c ty b aY,[decide ((t:Int)<256)=true,IntKind.u8.wrap (t:Int)=(t:Int),0+2≤2,0+32≤32,0+n≤ys.length,0+2≤2,0<([[3,1],b.to,((ys.drop 0).take n),[(t:Int),0]].headD []).length,(catL [[3,1],b.to,((ys.drop 0).take n),[(t:Int),0]]).length≤140737488355328,0+(catL [[3,1],b.to,((ys.drop 0).take n),[(t:Int),0]]).length≤(catL [[3,1],b.to,((ys.drop 0).take n),[(t:Int),0]]).length,(catL [[3,1],b.to,((ys.drop 0).take n),[(t:Int),0]]).length≤(catL [[3,1],b.to,((ys.drop 0).take n),[(t:Int),0]]).length,(catL [[3,1],b.to,((ys.drop 0).take n),[(t:Int),0]]).length≤140737488354000,cB64.enc (aS (((catL [[3,1],b.to,((ys.drop 0).take n),[(t:Int),0]]).drop 0).take (catL [[3,1],b.to,((ys.drop 0).take n),[(t:Int),0]]).length))=cB64.enc d,32≤64,32≤32,BOk (lo64 d),bM (dw (lo64 d)) (errOf (qOk (lo64 d)))=bM Q 0,(!eqB Q bT)=false,IntKind.i64.wrap ((t:Int)+1)=((t+1:Nat):Int)]):=by kernel_rfl
theorem yes (n c:Nat) (ty:TypeId) (b:B32) (t:Nat) (d:B64) (Q:B32) (g:Nat→SV):outX (mem ys n c ty b Q).length (MZ ys n c ty b ) (exec Γ tys 100 L ⟨fill g 0 (M1 ys n c ty b t),mem ys n c ty b aY,[(12,[.b true]),(18,[.n (t:Int)]),(22,[.s (cB64.enc d)]),(28,[.s (bM Q 0)]),(36,[.b true])]⟩)=some (.ret,live (MZ ys n c ty b ),(MZ ys n c ty b ).length,mem ys n c ty b Q,[decide ((t:Int)<256)=true,IntKind.u8.wrap (t:Int)=(t:Int),0+2≤2,0+32≤32,0+n≤ys.length,0+2≤2,0<([[3,1],b.to,((ys.drop 0).take n),[(t:Int),0]].headD []).length,(catL [[3,1],b.to,((ys.drop 0).take n),[(t:Int),0]]).length≤140737488355328,0+(catL [[3,1],b.to,((ys.drop 0).take n),[(t:Int),0]]).length≤(catL [[3,1],b.to,((ys.drop 0).take n),[(t:Int),0]]).length,(catL [[3,1],b.to,((ys.drop 0).take n),[(t:Int),0]]).length≤(catL [[3,1],b.to,((ys.drop 0).take n),[(t:Int),0]]).length,(catL [[3,1],b.to,((ys.drop 0).take n),[(t:Int),0]]).length≤140737488354000,cB64.enc (aS (((catL [[3,1],b.to,((ys.drop 0).take n),[(t:Int),0]]).drop 0).take (catL [[3,1],b.to,((ys.drop 0).take n),[(t:Int),0]]).length))=cB64.enc d,32≤64,32≤32,BOk (lo64 d),bM (dw (lo64 d)) (errOf (qOk (lo64 d)))=bM Q 0,(!eqB Q bT)=true]):=by kernel_rfl
theorem stop (n c:Nat) (ty:TypeId) (b:B32) (t:Nat) (g:Nat→SV):outX (mem ys n c ty b aY).length (MY ys n c ty b ) (exec Γ tys 100 L ⟨fill g 0 (M1 ys n c ty b t),mem ys n c ty b aY,[(12,[.b false])]⟩)=some (.exit 0,live (MY ys n c ty b ),(MY ys n c ty b ).length,mem ys n c ty b aY,[decide ((t:Int)<256)=false]):=by kernel_rfl
theorem din (n c:Nat) (ty:TypeId) (b:B32) (g:Nat→SV):outX (mem ys n c ty b aY).length (MY ys n c ty b ) (exec Γ tys 100 D ⟨fill g 0 (MY ys n c ty b ),mem ys n c ty b aY,[]⟩)=some (.ret,live (MY ys n c ty b ),(MY ys n c ty b ).length,mem ys n c ty b aY,[]):=by kernel_rfl
theorem zr (n c:Nat) (ty:TypeId) (b:B32) (q:B32) (g:Nat→SV):eRes tys (fill g 0 (MZ ys n c ty b )) (fun k=>(mem ys n c ty b q)[k]?) fn.results.toList=some [.g (cB32.row q),.a (bool1 true)]:=by kernel_rfl
theorem yr (n c:Nat) (ty:TypeId) (b:B32) (g:Nat→SV):eRes tys (fill g 0 (MY ys n c ty b )) (fun k=>(mem ys n c ty b aY)[k]?) fn.results.toList=some [.g (cB32.row aY),.a (bool1 false)]:=by kernel_rfl
theorem run (n c:Nat) (ty:TypeId) (b:B32) (hy:ys.length=n) (hn:n≤140737488353900):aG Tryz.prog G2 1 body (aA fn [cB32.enc b,.o (.a (.sld 0 0 0 n c))]) ([⟨false,ty,.pre .u8 ys⟩]) (aD tys fn (aX (rinR b ys) .none)):=by
 have hl:∀q:B32,q.to.length=32:=fun _=>rfl
 have hY:(((ys.drop 0).take n):List Int)=ys:=dt0 ys n hy
 refine Runs.bI ah mixed 1 (s0 ys n c ty b ) trivial (ids0 ys n c ty b _) rfl fun g=> ?_
 rw[t1_eq]
 refine Runs.seq (Runs.seq (Runs.ak ah mixed (ini ys n c ty b g) trivial (ids1 ys n c ty b _ _) rfl fun g=> ?_))
 refine Runs.block ?_
 refine Runs.loopX (fun(x:Nat)=>M1 ys n c ty b x) (fun x=>mem ys n c ty b aY) (fun x=>x≤256∧∀i,i<x→goodV b ys i=false) (fun x=>256-x) ?_ 0 ⟨by omega,fun i h=>by omega⟩ g
 rintro t g ⟨ht,hno⟩
 by_cases hlt:t<256
 ·have w2:IntKind.u8.wrap (t:Int)=(t:Int):=by rw[IntKind.wrap_u8];omega
  have w3:IntKind.i64.wrap ((t:Int)+1)=((t+1:Nat):Int):=i64n (by omega) (by omega)
  have hN:(catL [[3,1],b.to,((ys.drop 0).take n),[(t:Int),0]]).length=36+n:=by rw[hY];simp only[catL,List.length_append,List.length_nil,hl,List.length_cons,hy]<;>omega
  have w4:cB64.enc (aS (((catL [[3,1],b.to,((ys.drop 0).take n),[(t:Int),0]]).drop 0).take (catL [[3,1],b.to,((ys.drop 0).take n),[(t:Int),0]]).length))=cB64.enc (aS (inB b ys t)):=by rw[dt0 _ _ rfl,hY,inB_cat]
  have hH:BOk (lo64 (aS (inB b ys t))):=hit_ok b ys t
  have hH':BOk (hitV b ys t):=hH
  have nxt:goodV b ys t=false→∀i,i<t+1→goodV b ys i=false:=fun h i hi=>by
   rcases Nat.lt_or_ge i t with h' | h'
   ·exact hno i h'
   ·obtain rfl:i=t:=by omega
    exact h
  cases h1:bN (hitV b ys t) with
  | false=>
   refine Runs.ak ah mixed (n1 ys n c ty b t (aS (inB b ys t)) (dw (hitV b ys t)) g) ⟨decide_eq_true (by omega),w2,by omega,by omega,by omega,by omega,by show 0<2;omega,by rw[hN];omega,by rw[hN];omega,by rw[hN];omega,by rw[hN];omega,w4,by omega,by omega,hH,by show bM (dw (hitV b ys t)) (errOf (qOk (hitV b ys t)))=_;rw[err_key hH',h1];rfl,w3,trivial⟩ (ids1 ys n c ty b _ _) rfl fun g'=>⟨t+1,g',rfl,rfl,⟨by omega,nxt (by unfold goodV;rw[h1];rfl)⟩,by omega⟩
  | true=>
   have hq:=clear_key hH' h1
   have hf:bM (dw (hitV b ys t)) (errOf (qOk (hitV b ys t)))=bM (encP (clrP (decP (hitV b ys t)))) 0:=by rw[err_key hH',h1,hq];rfl
   cases h2:orgV (hitV b ys t) with
   | true=>
    refine Runs.ak ah mixed (n2 ys n c ty b t (aS (inB b ys t)) (encP (clrP (decP (hitV b ys t)))) g) ⟨decide_eq_true (by omega),w2,by omega,by omega,by omega,by omega,by show 0<2;omega,by rw[hN];omega,by rw[hN];omega,by rw[hN];omega,by rw[hN];omega,w4,by omega,by omega,hH,hf,congrArg Bool.not h2,w3,trivial⟩ (ids1 ys n c ty b _ _) rfl fun g'=>⟨t+1,g',rfl,rfl,⟨by omega,nxt (by unfold goodV;rw[h1,h2];rfl)⟩,by omega⟩
   | false=>
    rw[rin_hit hno (by unfold goodV;rw[h1,h2];rfl) hlt]
    exact Runs.ak ah mixed (yes ys n c ty b t (aS (inB b ys t)) (encP (clrP (decP (hitV b ys t)))) g) ⟨decide_eq_true (by omega),w2,by omega,by omega,by omega,by omega,by show 0<2;omega,by rw[hN];omega,by rw[hN];omega,by rw[hN];omega,by rw[hN];omega,w4,by omega,by omega,hH,hf,congrArg Bool.not h2,trivial⟩ (idsZ ys n c ty b _) rfl fun g'=>aD.ret (zr ys n c ty b _ g') rfl
 ·rw[rin_stop (fun i hi=>hno i (by omega))]
  refine Runs.ak ah mixed (stop ys n c ty b t g) ⟨decide_eq_false (by omega),trivial⟩ (idsY ys n c ty b _) rfl fun g=> ?_
  exact Runs.ak ah mixed (din ys n c ty b g) trivial (idsY ys n c ty b _) rfl fun g'=>aD.ret (yr ys n c ty b g') rfl
end
end w
namespace v
def M0 (a:Option Addr) (b:B32):List (Option SV):=aJ 41 0 [(1,.o (.a (.v (.slice a 0 0)))),(2,.o (.a (.ptr 0 0))),(4,.o (.a (.ptr 1 0))),(5,aN.enc false)]
def M1 (a:Option Addr) (b:B32) (t:Nat):List (Option SV):=aJ 41 0 [(1,.o (.a (.v (.slice a 0 0)))),(2,.o (.a (.ptr 0 0))),(4,.o (.a (.ptr 1 0))),(5,aN.enc false),(11,(cInt .i64).enc (t:Int))]
def MY (a:Option Addr) (b:B32):List (Option SV):=aJ 41 0 [(4,.o (.a (.ptr 1 0))),(5,aN.enc false)]
def MZ (a:Option Addr) (b:B32):List (Option SV):=aJ 41 0 [(4,.o (.a (.ptr 1 0))),(5,aN.enc true)]
def mem (a:Option Addr) (b:B32) (q:B32):List Blk:=[]++[⟨true,22,.lit (cB32.row b)⟩,⟨true,22,.lit (cB32.row q)⟩]
section
variable (a:Option Addr) (b:B32)
theorem ids0 (q:B32):aF (mem a b q).length (M0 a b ) (mem a b q)=true:=by kernel_rfl
theorem ids1 (q:B32) (t:Nat):aF (mem a b q).length (M1 a b t) (mem a b q)=true:=by kernel_rfl
theorem idsY (q:B32):aF (mem a b q).length (MY a b ) (mem a b q)=true:=by kernel_rfl
theorem idsZ (q:B32):aF (mem a b q).length (MZ a b ) (mem a b q)=true:=by kernel_rfl
theorem s0:outX (mem a b aY).length (M0 a b ) (exec Γ tys 100 (cpre 1 body) ⟨aA fn [cB32.enc b,.o (.a (.v (.slice a 0 0)))],[],[]⟩)=some (.normal,live (M0 a b ),(M0 a b ).length,mem a b aY,[]):=by kernel_rfl
theorem ini (g:Nat→SV):outX (mem a b aY).length (M1 a b 0) (exec Γ tys 100 A ⟨fill g 0 (M0 a b ),mem a b aY,[]⟩)=some (.normal,live (M1 a b 0),(M1 a b 0).length,mem a b aY,[]):=by kernel_rfl
theorem n1 (t:Nat) (d:B64) (Q:B32) (g:Nat→SV):outX (mem a b aY).length (M1 a b (t+1)) (exec Γ tys 100 L ⟨fill g 0 (M1 a b t),mem a b aY,[(12,[.b true]),(18,[.n (t:Int)]),(22,[.s (cB64.enc d)]),(28,[.s (bM Q 2)]),(39,[.n ((t+1:Nat):Int)])]⟩)=some (.normal,live (M1 a b (t+1)),(M1 a b (t+1)).length,mem a b aY,[decide ((t:Int)<256)=true,IntKind.u8.wrap (t:Int)=(t:Int),0+2≤2,0+32≤32,0+2≤2,0<([[3,1],b.to,[],[(t:Int),0]].headD []).length,(catL [[3,1],b.to,[],[(t:Int),0]]).length≤140737488355328,0+(catL [[3,1],b.to,[],[(t:Int),0]]).length≤(catL [[3,1],b.to,[],[(t:Int),0]]).length,(catL [[3,1],b.to,[],[(t:Int),0]]).length≤(catL [[3,1],b.to,[],[(t:Int),0]]).length,(catL [[3,1],b.to,[],[(t:Int),0]]).length≤140737488354000,cB64.enc (aS (((catL [[3,1],b.to,[],[(t:Int),0]]).drop 0).take (catL [[3,1],b.to,[],[(t:Int),0]]).length))=cB64.enc d,32≤64,32≤32,BOk (lo64 d),bM (dw (lo64 d)) (errOf (qOk (lo64 d)))=bM Q 2,IntKind.i64.wrap ((t:Int)+1)=((t+1:Nat):Int)]):=by kernel_rfl
theorem n2 (t:Nat) (d:B64) (Q:B32) (g:Nat→SV):outX (mem a b aY).length (M1 a b (t+1)) (exec Γ tys 100 L ⟨fill g 0 (M1 a b t),mem a b aY,[(12,[.b true]),(18,[.n (t:Int)]),(22,[.s (cB64.enc d)]),(28,[.s (bM Q 0)]),(36,[.b false]),(39,[.n ((t+1:Nat):Int)])]⟩)=some (.normal,live (M1 a b (t+1)),(M1 a b (t+1)).length,mem a b aY,[decide ((t:Int)<256)=true,IntKind.u8.wrap (t:Int)=(t:Int),0+2≤2,0+32≤32,0+2≤2,0<([[3,1],b.to,[],[(t:Int),0]].headD []).length,(catL [[3,1],b.to,[],[(t:Int),0]]).length≤140737488355328,0+(catL [[3,1],b.to,[],[(t:Int),0]]).length≤(catL [[3,1],b.to,[],[(t:Int),0]]).length,(catL [[3,1],b.to,[],[(t:Int),0]]).length≤(catL [[3,1],b.to,[],[(t:Int),0]]).length,(catL [[3,1],b.to,[],[(t:Int),0]]).length≤140737488354000,cB64.enc (aS (((catL [[3,1],b.to,[],[(t:Int),0]]).drop 0).take (catL [[3,1],b.to,[],[(t:Int),0]]).length))=cB64.enc d,32≤64,32≤32,BOk (lo64 d),bM (dw (lo64 d)) (errOf (qOk (lo64 d)))=bM Q 0,(!eqB Q bT)=false,IntKind.i64.wrap ((t:Int)+1)=((t+1:Nat):Int)]):=by kernel_rfl
theorem yes (t:Nat) (d:B64) (Q:B32) (g:Nat→SV):outX (mem a b Q).length (MZ a b ) (exec Γ tys 100 L ⟨fill g 0 (M1 a b t),mem a b aY,[(12,[.b true]),(18,[.n (t:Int)]),(22,[.s (cB64.enc d)]),(28,[.s (bM Q 0)]),(36,[.b true])]⟩)=some (.ret,live (MZ a b ),(MZ a b ).length,mem a b Q,[decide ((t:Int)<256)=true,IntKind.u8.wrap (t:Int)=(t:Int),0+2≤2,0+32≤32,0+2≤2,0<([[3,1],b.to,[],[(t:Int),0]].headD []).length,(catL [[3,1],b.to,[],[(t:Int),0]]).length≤140737488355328,0+(catL [[3,1],b.to,[],[(t:Int),0]]).length≤(catL [[3,1],b.to,[],[(t:Int),0]]).length,(catL [[3,1],b.to,[],[(t:Int),0]]).length≤(catL [[3,1],b.to,[],[(t:Int),0]]).length,(catL [[3,1],b.to,[],[(t:Int),0]]).length≤140737488354000,cB64.enc (aS (((catL [[3,1],b.to,[],[(t:Int),0]]).drop 0).take (catL [[3,1],b.to,[],[(t:Int),0]]).length))=cB64.enc d,32≤64,32≤32,BOk (lo64 d),bM (dw (lo64 d)) (errOf (qOk (lo64 d)))=bM Q 0,(!eqB Q bT)=true]):=by kernel_rfl
theorem stop (t:Nat) (g:Nat→SV):outX (mem a b aY).length (MY a b ) (exec Γ tys 100 L ⟨fill g 0 (M1 a b t),mem a b aY,[(12,[.b false])]⟩)=some (.exit 0,live (MY a b ),(MY a b ).length,mem a b aY,[decide ((t:Int)<256)=false]):=by kernel_rfl
theorem din (g:Nat→SV):outX (mem a b aY).length (MY a b ) (exec Γ tys 100 D ⟨fill g 0 (MY a b ),mem a b aY,[]⟩)=some (.ret,live (MY a b ),(MY a b ).length,mem a b aY,[]):=by kernel_rfl
theorem zr (q:B32) (g:Nat→SV):eRes tys (fill g 0 (MZ a b )) (fun k=>(mem a b q)[k]?) fn.results.toList=some [.g (cB32.row q),.a (bool1 true)]:=by kernel_rfl
theorem yr (g:Nat→SV):eRes tys (fill g 0 (MY a b )) (fun k=>(mem a b aY)[k]?) fn.results.toList=some [.g (cB32.row aY),.a (bool1 false)]:=by kernel_rfl
theorem run:aG Tryz.prog G2 0 body (aA fn [cB32.enc b,.o (.a (.v (.slice a 0 0)))]) ([]) (aD tys fn (aX (rinR b []) .none)):=by
 have hl:∀q:B32,q.to.length=32:=fun _=>rfl
 have hY:([]:List Int)=[]:=rfl
 refine Runs.bI ah mixed 1 (s0 a b ) trivial (ids0 a b _) rfl fun g=> ?_
 rw[t1_eq]
 refine Runs.seq (Runs.seq (Runs.ak ah mixed (ini a b g) trivial (ids1 a b _ _) rfl fun g=> ?_))
 refine Runs.block ?_
 refine Runs.loopX (fun(x:Nat)=>M1 a b x) (fun x=>mem a b aY) (fun x=>x≤256∧∀i,i<x→goodV b [] i=false) (fun x=>256-x) ?_ 0 ⟨by omega,fun i h=>by omega⟩ g
 rintro t g ⟨ht,hno⟩
 by_cases hlt:t<256
 ·have w2:IntKind.u8.wrap (t:Int)=(t:Int):=by rw[IntKind.wrap_u8];omega
  have w3:IntKind.i64.wrap ((t:Int)+1)=((t+1:Nat):Int):=i64n (by omega) (by omega)
  have hN:(catL [[3,1],b.to,[],[(t:Int),0]]).length=36+0:=by rw[hY];simp only[catL,List.length_append,List.length_nil,hl,List.length_cons]<;>omega
  have w4:cB64.enc (aS (((catL [[3,1],b.to,[],[(t:Int),0]]).drop 0).take (catL [[3,1],b.to,[],[(t:Int),0]]).length))=cB64.enc (aS (inB b [] t)):=by rw[dt0 _ _ rfl,hY,inB_cat]
  have hH:BOk (lo64 (aS (inB b [] t))):=hit_ok b [] t
  have hH':BOk (hitV b [] t):=hH
  have nxt:goodV b [] t=false→∀i,i<t+1→goodV b [] i=false:=fun h i hi=>by
   rcases Nat.lt_or_ge i t with h' | h'
   ·exact hno i h'
   ·obtain rfl:i=t:=by omega
    exact h
  cases h1:bN (hitV b [] t) with
  | false=>
   refine Runs.ak ah mixed (n1 a b t (aS (inB b [] t)) (dw (hitV b [] t)) g) ⟨decide_eq_true (by omega),w2,by omega,by omega,by omega,by show 0<2;omega,by rw[hN];omega,by rw[hN];omega,by rw[hN];omega,by rw[hN];omega,w4,by omega,by omega,hH,by show bM (dw (hitV b [] t)) (errOf (qOk (hitV b [] t)))=_;rw[err_key hH',h1];rfl,w3,trivial⟩ (ids1 a b _ _) rfl fun g'=>⟨t+1,g',rfl,rfl,⟨by omega,nxt (by unfold goodV;rw[h1];rfl)⟩,by omega⟩
  | true=>
   have hq:=clear_key hH' h1
   have hf:bM (dw (hitV b [] t)) (errOf (qOk (hitV b [] t)))=bM (encP (clrP (decP (hitV b [] t)))) 0:=by rw[err_key hH',h1,hq];rfl
   cases h2:orgV (hitV b [] t) with
   | true=>
    refine Runs.ak ah mixed (n2 a b t (aS (inB b [] t)) (encP (clrP (decP (hitV b [] t)))) g) ⟨decide_eq_true (by omega),w2,by omega,by omega,by omega,by show 0<2;omega,by rw[hN];omega,by rw[hN];omega,by rw[hN];omega,by rw[hN];omega,w4,by omega,by omega,hH,hf,congrArg Bool.not h2,w3,trivial⟩ (ids1 a b _ _) rfl fun g'=>⟨t+1,g',rfl,rfl,⟨by omega,nxt (by unfold goodV;rw[h1,h2];rfl)⟩,by omega⟩
   | false=>
    rw[rin_hit hno (by unfold goodV;rw[h1,h2];rfl) hlt]
    exact Runs.ak ah mixed (yes a b t (aS (inB b [] t)) (encP (clrP (decP (hitV b [] t)))) g) ⟨decide_eq_true (by omega),w2,by omega,by omega,by omega,by show 0<2;omega,by rw[hN];omega,by rw[hN];omega,by rw[hN];omega,by rw[hN];omega,w4,by omega,by omega,hH,hf,congrArg Bool.not h2,trivial⟩ (idsZ a b _) rfl fun g'=>aD.ret (zr a b _ g') rfl
 ·rw[rin_stop (fun i hi=>hno i (by omega))]
  refine Runs.ak ah mixed (stop a b t g) ⟨decide_eq_false (by omega),trivial⟩ (idsY a b _) rfl fun g=> ?_
  exact Runs.ak ah mixed (din a b g) trivial (idsY a b _) rfl fun g'=>aD.ret (yr a b g') rfl
end
end v
def spec (I:B32→List Int→SV):List PArg→Option (SV × LEff × Cst)
 | [.val v,.win .u8 ys n ty]=>match cB32.dec v with
  | some b=>some (I b ys,.none,[n≤140737488353900])
  | none=>none
 | [.val v,.val (.o (.a (.v (.slice _ 0 0))))]=>match cB32.dec v with
  | some b=>some (I b [],.none,[])
  | none=>none
 | _=>none
noncomputable def con (I:B32→List Int→SV) (hI:I=rinR):Con Tryz.prog G2:=Con.parts ah 62 fn Tryz.func62 (by kernel_rfl) (c:=body) (by kernel_rfl) [.val,.win .u8] (spec I)
 (fun ps r e p h hp=>by
  subst hI
  unfold spec at h
  split at h
  ·split at h<;>cases h
   exact⟨rinR_ids _ _,fun b hb=>by simp only[bR,PArg.blk,List.nil_append,List.append_nil,List.mem_singleton] at hb;rw[hb]⟩
  ·split at h<;>cases h
   exact⟨rinR_ids _ _,fun b hb=>by cases hb⟩
  ·cases h)
 (fun ps r e p cap h hp hi=>by
  subst hI
  unfold spec at h
  split at h
  ·split at h<;>cases h
   rename_i b hb
   have:=cB32.ok _ _ hb
   subst this
   exact w.run _ _ _ _ b hi.2.1.1 hp.1
  ·split at h<;>cases h
   rename_i b hb
   have:=cB32.ok _ _ hb
   subst this
   exact v.run _ b
  ·cases h)
end rin
namespace rchl
noncomputable abbrev fn:=Tryz.f65
theorem ex (a b c d e:B32) (h:B64):runOut [joinK_con,r512_con] tys fn 100 [cB32.enc a,cB32.enc b,cB32.enc c,cB32.enc d,cB32.enc e] [(22,[.s (cB64.enc h)])]=some (cB32.enc (ch16 h),[0+2≤2,0+32≤32,0+32≤32,0+32≤32,0+32≤32,0+32≤32,0+1≤1,0<([[3,2],a.to,b.to,c.to,d.to,e.to,[0]].headD []).length,(catL [[3,2],a.to,b.to,c.to,d.to,e.to,[0]]).length≤140737488355328,0+(catL [[3,2],a.to,b.to,c.to,d.to,e.to,[0]]).length≤(catL [[3,2],a.to,b.to,c.to,d.to,e.to,[0]]).length,(catL [[3,2],a.to,b.to,c.to,d.to,e.to,[0]]).length≤(catL [[3,2],a.to,b.to,c.to,d.to,e.to,[0]]).length,(catL [[3,2],a.to,b.to,c.to,d.to,e.to,[0]]).length≤140737488354000,cB64.enc (aS (((catL [[3,2],a.to,b.to,c.to,d.to,e.to,[0]]).drop 0).take (catL [[3,2],a.to,b.to,c.to,d.to,e.to,[0]]).length))=cB64.enc h,16≤64,16≤32]):=by kernel_rfl
end rchl
theorem rchl_fn (a b c d e:B32):FnOk Tryz.prog G2 65 [cB32.enc a,cB32.enc b,cB32.enc c,cB32.enc d,cB32.enc e] (cB32.enc (chlV ⟨a,b,c,d,e⟩)):=by
 have hN:(catL [[3,2],a.to,b.to,c.to,d.to,e.to,[0]]).length=163:=rfl
 have hC:catL [[3,2],a.to,b.to,c.to,d.to,e.to,[0]]=chB ⟨a,b,c,d,e⟩:=rfl
 refine FnOk.aB ah mixed Tryz.func65 (rchl.ex a b c d e (aS (chB ⟨a,b,c,d,e⟩))) ⟨by omega,by omega,by omega,by omega,by omega,by omega,by omega,by show 0<2;omega,by rw[hN];omega,by rw[hN];omega,by rw[hN];omega,by rw[hN];omega,by rw[dt0 _ _ rfl,hC],by omega,by omega,trivial⟩ rfl rfl
noncomputable def rchl_con (C:P5→B32) (hC:C=chlV):Con Tryz.prog G2:=Con.of 65 Tryz.f65 Tryz.func65 (by kernel_rfl) (by kernel_rfl)
 (fun
  | [x,y,z,u,v]=>match cB32.dec x,cB32.dec y,cB32.dec z,cB32.dec u,cB32.dec v with
   | some a,some b,some c,some d,some e=>some (cB32.enc (C ⟨a,b,c,d,e⟩),[])
   | _,_,_,_,_=>none
  | _=>none) fun args r c h=>by
  subst hC
  split at h<;>try cases h
  split at h<;>try cases h
  rename_i ha hb hc hd he
  rw[←cB32.ok _ _ ha,←cB32.ok _ _ hb,←cB32.ok _ _ hc,←cB32.ok _ _ hd,←cB32.ok _ _ he]
  exact⟨cB32.ids _,fun _=>rchl_fn _ _ _ _ _⟩
def prtSV (D:B80):SV:= .t [.g (cB32.row (g80 D)),.g (cB32.row (c80 D)),.g (cB32.row (t80 D))]
theorem rprt_ex (D:B80):runOut ([]:Cons Tryz.prog G2) tys Tryz.f80 100 [cB80.enc D] []=some (prtSV D,[32≤80,32≤32,16≤48,16≤32,32≤32,32≤32]):=by kernel_rfl
noncomputable def rprt_con:Con Tryz.prog G2:=con1 80 Tryz.f80 Tryz.func80 (by kernel_rfl) (by kernel_rfl) cB80 prtSV (fun _=>[]) (fun _=>rfl) (fun D _=>FnOk.aB ah mixed Tryz.func80 (rprt_ex D) ⟨by omega,by omega,by omega,by omega,by omega,by omega,trivial⟩ rfl rfl)
namespace rOut
noncomputable abbrev fn:=Tryz.f32
noncomputable def Γ:Cons Tryz.prog G2:=[rprt_con,qclear_con.lift gx_g2,rcan_con.lift gx_g2,joinK_con,r512_con]
theorem exa (D:B80) (Q:B32):runOut Γ tys fn 100 [cB80.enc D] [(17,[.s (bM Q 2)])]=some (aC zeroC 2,[BOk (g80 D),bM (dw (g80 D)) (errOf (qOk (g80 D)))=bM Q 2]):=by kernel_rfl
theorem exb (D:B80) (Q:B32):runOut Γ tys fn 100 [cB80.enc D] [(17,[.s (bM Q 0)]),(24,[.s (aN.enc false)])]=some (aC zeroC 2,[BOk (g80 D),bM (dw (g80 D)) (errOf (qOk (g80 D)))=bM Q 0,BOk (t80 D),aN.enc (canV (t80 D))=aN.enc false]):=by kernel_rfl
theorem exc (D:B80) (Q:B32) (h:B64):runOut Γ tys fn 100 [cB80.enc D] [(17,[.s (bM Q 0)]),(24,[.s (aN.enc true)]),(33,[.s (cB64.enc h)])]=some (aC h 0,[BOk (g80 D),bM (dw (g80 D)) (errOf (qOk (g80 D)))=bM Q 0,BOk (t80 D),aN.enc (canV (t80 D))=aN.enc true,0+2≤2,0+32≤32,0+1≤1,0<([[3,3],Q.to,[0]].headD []).length,(catL [[3,3],Q.to,[0]]).length≤140737488355328,0+(catL [[3,3],Q.to,[0]]).length≤(catL [[3,3],Q.to,[0]]).length,(catL [[3,3],Q.to,[0]]).length≤(catL [[3,3],Q.to,[0]]).length,(catL [[3,3],Q.to,[0]]).length≤140737488354000,cB64.enc (aS (((catL [[3,3],Q.to,[0]]).drop 0).take (catL [[3,3],Q.to,[0]]).length))=cB64.enc h]):=by kernel_rfl
end rOut
theorem rOut_fn (D:B80) (hD:D.Ok):FnOk Tryz.prog G2 32 [cB80.enc D] (outSV D):=by
 have he:=err_key hD.1
 unfold outSV okV
 cases h1:bN (g80 D) with
 | false=>
  rw[Bool.false_and,cond_false]
  exact FnOk.aB ah mixed Tryz.func32 (rOut.exa D (dw (g80 D))) ⟨hD.1,by rw[he,h1];rfl,trivial⟩ rfl rfl
 | true=>
  have hq:=clear_key hD.1 h1
  have hf:bM (dw (g80 D)) (errOf (qOk (g80 D)))=bM (encP (clrP (decP (g80 D)))) 0:=by rw[he,h1,hq];rfl
  rw[Bool.true_and]
  cases h2:canV (t80 D) with
  | false=>
   rw[cond_false]
   exact FnOk.aB ah mixed Tryz.func32 (rOut.exb D (encP (clrP (decP (g80 D))))) ⟨hD.1,hf,hD.2.2,congrArg aN.enc h2,trivial⟩ rfl rfl
  | true=>
   rw[cond_true]
   have key:∀Q:B32,catL [[3,3],Q.to,[0]]=[3,3]++Q.to++[0]:=fun Q=>rfl
   have hN:∀Q:B32,(catL [[3,3],Q.to,[0]]).length=35:=fun Q=>rfl
   refine FnOk.aB ah mixed Tryz.func32 (rOut.exc D (encP (clrP (decP (g80 D)))) (outV (decP (g80 D)))) ⟨hD.1,hf,hD.2.2,congrArg aN.enc h2,by omega,by omega,by omega,by show 0<2;omega,by rw[hN];omega,by rw[hN];omega,by rw[hN];omega,by rw[hN];omega,by rw[dt0 _ _ rfl,key];rfl,trivial⟩ rfl rfl
noncomputable def rOut_con:Con Tryz.prog G2:=con1 32 Tryz.f32 Tryz.func32 (by kernel_rfl) (by kernel_rfl) cB80 outSV (fun D=>[D.Ok]) outSV_ids (fun D h=>rOut_fn D h.1)
end Go.Proofs.YtbfndladaldajaaGreatDoor

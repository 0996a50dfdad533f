/- Rows of nodes as values; bytes.Compare: contract. -/
import Derived.Test.YtdccehmekkcheaaDoorCFo
import Derived.Test.YtdccehmekkcheaaDoorCMTA
import Derived.Lib.BytesEntry
import Derived.Laws.Externs
set_option linter.unusedSimpArgs false
set_option linter.unusedVariables false
namespace Go.Proofs.YtdccehmekkcheaaDoor
open Go Go.Eng Go.RowKit
set_option maxRecDepth 100000
section
variable {α:Type} {f:α→List Value} {s:Nat}
theorem pV (hf:∀x,(f x).length=s):∀l:List α,(l.flatMap f).length=l.length*s
 | []=>by simp
 | x::r=>by rw[List.flatMap_cons,List.length_append,hf,pV hf r,List.length_cons,Nat.add_mul,Nat.one_mul,Nat.add_comm]
theorem vF (hf:∀x,(f x).length=s):∀(l:List α) (i:Nat),(l.flatMap f).drop (i*s)=(l.drop i).flatMap f
 | l,0=>by simp
 | [],i+1=>by simp
 | x::r,i+1=>by rw[List.flatMap_cons,Nat.add_mul,Nat.one_mul,Nat.add_comm,List.drop_append,hf,List.drop_eq_nil_of_le (by rw[hf];omega),Nat.add_sub_cancel_left,List.nil_append,vF hf r i];rfl
theorem flat_take (hf:∀x,(f x).length=s):∀(l:List α) (i:Nat),(l.flatMap f).take (i*s)=(l.take i).flatMap f
 | l,0=>by simp
 | [],i+1=>by simp
 | x::r,i+1=>by
  rw[List.flatMap_cons,Nat.add_mul,Nat.one_mul,Nat.add_comm (i*s) s,List.take_append,hf,List.take_of_length_le (by rw[hf];omega),Nat.add_sub_cancel_left,flat_take hf r i]
  rfl
theorem takeV_eq (vs:List Value):∀(n o:Nat),o+n≤vs.length→bn vs o n=((vs.drop o).take n).map Atom.v
 | 0,_,_=>by simp[bn]
 | n+1,o,h=>by
  have ho:o<vs.length:=by omega
  rw[bn,takeV_eq vs n (o+1) (by omega),List.drop_eq_getElem_cons ho,List.take_succ_cons,List.map_cons]
  congr 2
  simp[List.getD,List.getElem?_eq_getElem (show o<vs.length by omega)]
theorem lF (hf:∀x,(f x).length=s) (l:List α) (d:α) {i:Nat} (o n:Nat) (hi:i<l.length) (ho:o+n≤s):bn (l.flatMap f) (i*s+o) n=(((f (l.getD i d)).drop o).take n).map Atom.v:=by
 have hl:=pV hf l
 have h1:(i+1)*s≤l.length*s:=Nat.mul_le_mul_right _ hi
 rw[Nat.add_mul,Nat.one_mul] at h1
 rw[takeV_eq _ _ _ (by omega),←List.drop_drop,vF hf,List.drop_eq_getElem_cons hi,List.flatMap_cons]
 have e:l.getD i d=l[i]:=by simp[List.getD,List.getElem?_eq_getElem hi]
 rw[e,List.drop_append_of_le_length (by rw[hf];omega),List.take_append_of_le_length (by rw[List.length_drop,hf];omega)]
theorem getV_flat (hf:∀x,(f x).length=s) (l:List α) (d:α) {i:Nat} (o:Nat) (hi:i<l.length) (ho:o<s):(l.flatMap f).getD (i*s+o) undef=(f (l.getD i d)).getD o undef:=by
 have h:=lF hf l d o 1 hi (by omega)
 simp only[bn] at h
 have h2:=takeV_eq (f (l.getD i d)) 1 o (by rw[hf];omega)
 rw[←h2] at h
 simp only[bn,List.cons.injEq,and_true,Atom.v.injEq] at h
 exact h
end
def Nd.vals (n:Nd):List Value:= .int .i64 n.len::(n.pre.to++n.hash.to).map (Value.int .u8)
def Lf.vals (l:Lf):List Value:=(l.lab.to++l.val.to).map (Value.int .u8)
def fu (b:B32):List Value:=b.to.map (Value.int .u8)
theorem Nd.dG (n:Nd):n.vals.length=65:=rfl
theorem Lf.dG (n:Lf):n.vals.length=64:=rfl
theorem jQ (b:B32):(fu b).length=32:=rfl
abbrev ah (l:List Nd):List Value:=l.flatMap Nd.vals
abbrev lvals (l:List Lf):List Value:=l.flatMap Lf.vals
abbrev aJ (l:List B32):List Value:=l.flatMap fu
def zl:Lf:=⟨zB,zB⟩
theorem bH (l:List Nd):(ah l).length=l.length*65:=pV Nd.dG l
theorem bU (l:List Lf):(lvals l).length=l.length*64:=pV Lf.dG l
theorem l7 (l:List B32):(aJ l).length=l.length*32:=pV jQ l
theorem qI (l:List Nd) (i:Nat):(ah l).take (i*65)=ah (l.take i):=flat_take Nd.dG l i
theorem qJ (l:List Nd) (i:Nat):(ah l).drop (i*65)=ah (l.drop i):=vF Nd.dG l i
theorem ko (a b:List Nd):ah (a++b)=ah a++ah b:=by simp[ah]
theorem kQ (n:Nd):ah [n]=n.vals:=by simp[ah]
theorem rV (a b:List Lf):lvals (a++b)=lvals a++lvals b:=by simp[lvals]
theorem wvals_app (a b:List B32):aJ (a++b)=aJ a++aJ b:=by simp[aJ]
theorem offs (i s:Nat):0+aN 0 (i:Int) s=i*s:=by
 rw[kY]
 simp
theorem ld_nd (l:List Nd) {i:Nat} (hi:i<l.length):SV.o (.g (bn (ah l) (i*65) 65))=cNd.enc (l.getD i zn):=by
 have h:=lF Nd.dG l zn 0 65 hi (by omega)
 rw[Nat.add_zero] at h
 rw[h,List.drop_zero,List.take_of_length_le (by rw[Nd.dG];omega)]
 rfl
theorem ld_pre (l:List Nd) {i:Nat} (hi:i<l.length):SV.o (.g (bn (ah l) (i*65+1) 32))=ay.enc (l.getD i zn).pre:=by
 rw[lF Nd.dG l zn 1 32 hi (by omega)]
 rfl
theorem ld_len (l:List Nd) {i:Nat} (hi:i<l.length):SV.o (.a (.v ((ah l).getD (i*65) undef)))= .o (.a (aG .i64 (l.getD i zn).len)):=by
 have h:=getV_flat Nd.dG l zn 0 hi (by omega)
 rw[Nat.add_zero] at h
 rw[h]
 rfl
theorem ld_lf (l:List Lf) {i:Nat} (hi:i<l.length):SV.o (.g (bn (lvals l) (i*64) 64))=cLf.enc (l.getD i zl):=by
 have h:=lF Lf.dG l zl 0 64 hi (by omega)
 rw[Nat.add_zero] at h
 rw[h,List.drop_zero,List.take_of_length_le (by rw[Lf.dG];omega)]
 rfl
theorem ld_lab (l:List B32) {i:Nat} (hi:i<l.length):SV.o (.g (bn (aJ l) (i*32) 32))=ay.enc (l.getD i zB):=by
 have h:=lF jQ l zB 0 32 hi (by omega)
 rw[Nat.add_zero] at h
 rw[h,List.drop_zero,List.take_of_length_le (by rw[jQ];omega)]
 rfl
def ak:List Value→List Nd
 | []=>[]
 | v::r=>match Nd.of ((v::r.take 64).map Atom.v) with
  | some n=>n::ak (r.drop 64)
  | none=>[]
 termination_by l=>l.length
 decreasing_by simp only[List.length_drop,List.length_cons];omega
theorem cB32_dec (b:B32):ay.dec (.o (.g (ay.row b)))=some b:=rfl
theorem Nd.of_row (n:Nd):Nd.of n.row=some n:=rfl
theorem bE:∀l:List Nd,ak (ah l)=l
 | []=>by rw[show ah []=[] from rfl,ak]
 | n::r=>by
  have e:ah (n::r)=n.vals++ah r:=by simp[ah]
  rw[e]
  have e2:n.vals++ah r= .int .i64 n.len::(((n.pre.to++n.hash.to).map (Value.int .u8))++ah r):=rfl
  have hl:((n.pre.to++n.hash.to).map (Value.int .u8)).length=64:=rfl
  rw[e2,ak,List.take_append_of_le_length (by rw[hl];omega),List.take_of_length_le (by rw[hl];omega),List.drop_append,hl,Nat.sub_self,List.drop_zero,List.drop_eq_nil_of_le (by rw[hl];omega),List.nil_append]
  have e3:(Value.int .i64 n.len::(n.pre.to++n.hash.to).map (Value.int .u8)).map Atom.v=n.row:=rfl
  rw[e3,Nd.of_row]
  simp only
  rw[bE r]
theorem oneV (n:Nd):∀v∈n.vals,v.oneCell'=true:=by
 intro v hv
 unfold Nd.vals at hv
 rcases List.mem_cons.1 hv with rfl | h
 ·rfl
 ·obtain⟨x,_,rfl⟩:=List.mem_map.1 h
  rfl
theorem oneL (l:List Nd):∀v∈ah l,v.oneCell'=true:=by
 intro v hv
 obtain⟨n,_,h⟩:=List.mem_flatMap.1 hv
 exact oneV n v h
theorem srcI_cells {G:Glob} {N:Nat} {w0:Base G} {m:PM} {x:SV} {ys:List Int} {n:Nat} {c:Cst} {β:Nat→Eng.Loc} {w:World} (hm:bG N w0 m β w) (h:srcI m .u8 x=some (ys,n,c)) (hc:Holds c) {P:Program}:
  (Extern.Bytes.bytesOf (x.den β)).run P w= .ok ⟨(Lib.bytesOf ys).toArray⟩ w:=by
 unfold srcI at h
 split at h
 ·rename_i k b o n0 hv
  split at h<;>try cases h
  rename_i bl hb
  split at h<;>try cases h
  rename_i kd' xs hi
  split at h<;>cases h
  rename_i hk
  subst hk
  obtain⟨hle,_⟩:=hc
  have hlen:((xs.drop o).take n).length=n:=by simp;omega
  obtain⟨cap,hden⟩:=lD hv β
  rw[hden]
  obtain⟨fr,kD,C,hh,hp0,hC,_⟩:=hm.blk k bl hb
  obtain⟨pre,post,hCe,hpre⟩:=Row.qm hi hC
  have hcell:∀j z,((xs.drop o).take n)[j]? =some z→w.cell? (((β k).at (b+o)).add j)=some (.int .u8 z):=fun j z hj=>by
   rw[Loc.gL,cell_at hh hp0,hCe,List.getElem?_append_right (by omega),List.getElem?_append_left (by
    rw[bF]
    rw[List.getElem?_take] at hj
    split at hj
    ·omega
    ·cases hj)]
   rw[List.getElem?_take] at hj
   split at hj
   ·rw[List.getElem?_drop] at hj
    unfold dx
    rw[List.getElem?_map,show b+o+j-pre.length=o+j by omega,hj]
    rfl
   ·cases hj
  have hr:=Lib.run_loadBytesX (P:=P) w ((xs.drop o).take n) ((β k).at (b+o)) .empty hcell
  rw[hlen] at hr
  show(Extern.Bytes.loadBytes ((β k).at (b+o)) n .empty).run P w=_
  rw[hr]
  simp
 ·split at h<;>cases h
  rename_i a n0 c0
  cases a with
  | none=>rfl
  | some a=>rfl
noncomputable def cmpI (xs ys:List Int):Int:=Lib.compareBytes (Lib.bytesOf xs) (Lib.bytesOf ys)
noncomputable def cmpx_con {G:Glob}:Con Tryd.prog G where
 f:=85
 spec:=fun m _ args=>match args with
  | [x,y]=>match srcI m .u8 x,srcI m .u8 y with
   | some (a,_,c1),some (b,_,c2)=>some (.o (.a (aG .i64 (cmpI a b))),.none,c1++c2)
   | _,_=>none
  | _=>none
 ok:=fun m fr args r e c N w0 β w h hc hm hf0 hids=>by
  split at h<;>try cases h
  rename_i x y
  split at h<;>cases h
  rename_i a n1 c1 b n2 c2 h1 h2
  obtain⟨hc1,hc2⟩:=aV hc
  refine .inr ⟨β,w,?_,fun _ _=>rfl,hm,fun k hk=>by cases hk⟩
  rw[run_callFunc_extern Tryd.func85 (by kernel_rfl) (by kernel_rfl) (by kernel_rfl) (e:=Extern.BytealgCompare.compare) (by kernel_rfl)]
  have e1:=srcI_cells (P:=Tryd.prog) hm h1 hc1
  have e2:=srcI_cells (P:=Tryd.prog) hm h2 hc2
  show((do pure (goInt (Extern.BytealgCompare.cmp (←Extern.Bytes.bytesOf (x.den β)) (←Extern.Bytes.bytesOf (y.den β)))):Sem Value).run Tryd.prog w).andThen _=_
  simp only[Sem.run_bind,e1,e2,Result.andThen_ok,Sem.run_pure]
  rw[Lib.cmp_eq]
  rfl
 loc:=fun m m' fr fr' args r e c hm hd h hn=>by
  split at h<;>try cases h
  rename_i x y
  show(match srcI m' .u8 x,srcI m' .u8 y with
   | some (a,_,c1),some (b,_,c2)=>some (SV.o (.a (aG .i64 (cmpI a b))),Eff.none,c1++c2)
   | _,_=>none)=_
  rw[lH (hm x (by simp)),lH (hm y (by simp))]
  exact h
 upd:=fun m fr args r k row c h=>by
  split at h<;>try cases h
  split at h<;>cases h
theorem u8_lt {x y:Int} (hx:Byte x) (hy:Byte y):UInt8.ofNat x.toNat<UInt8.ofNat y.toNat↔x<y:=by
 obtain⟨_,_⟩:=hx
 obtain⟨_,_⟩:=hy
 rw[UInt8.lt_iff_toNat_lt]
 simp only[UInt8.toNat_ofNat']
 omega
theorem cmp_neg:∀(xs ys:List Int),xs.length=ys.length→(∀x∈xs,Byte x)→(∀y∈ys,Byte y)→
  (cmpI xs ys<0↔∃j,j<xs.length∧(∀i,i<j→xs.getD i 0=ys.getD i 0)∧xs.getD j 0<ys.getD j 0)
 | [],[],_,_,_=>by simp[cmpI,Lib.compareBytes,Lib.bytesOf]
 | [],_::_,h,_,_=>by simp at h
 | _::_,[],h,_,_=>by simp at h
 | x::xs,y::ys,h,hx,hy=>by
  have ih:=cmp_neg xs ys (by simpa using h) (fun z hz=>hx z (by simp[hz])) (fun z hz=>hy z (by simp[hz]))
  have h1:=u8_lt (hx x (by simp)) (hy y (by simp))
  have h2:=u8_lt (hy y (by simp)) (hx x (by simp))
  have e:cmpI (x::xs) (y::ys)=if UInt8.ofNat x.toNat<UInt8.ofNat y.toNat then-1 else if UInt8.ofNat y.toNat<UInt8.ofNat x.toNat then 1 else cmpI xs ys:=rfl
  rw[e]
  by_cases a:x<y
  ·rw[if_pos (h1.2 a)]
   exact⟨fun _=>⟨0,by simp,fun i hi=>absurd hi (by omega),by simpa using a⟩,fun _=>by omega⟩
  ·rw[if_neg fun q=>a (h1.1 q)]
   by_cases b:y<x
   ·rw[if_pos (h2.2 b)]
    refine⟨fun q=>by omega,?_⟩
    rintro⟨j,_,q1,q2⟩
    cases j with
    | zero=>simp at q2;omega
    | succ j=>have:=q1 0 (by omega);simp at this;omega
   ·rw[if_neg fun q=>b (h2.1 q),ih]
    have exy:x=y:=by omega
    constructor
    ·rintro⟨j,q0,q1,q2⟩
     refine⟨j+1,by simpa using q0,fun i hi=> ?_,by simpa using q2⟩
     cases i with
     | zero=>simpa using exy
     | succ i=>simpa using q1 i (by omega)
    ·rintro⟨j,q0,q1,q2⟩
     cases j with
     | zero=>simp at q2;omega
     | succ j=>exact⟨j,by simpa using q0,fun i hi=>by simpa using q1 (i+1) (by omega),by simpa using q2⟩
noncomputable def cmpV (a b:B32):Int:=cmpI a.to b.to
theorem to_byte {b:B32} (h:BOk b):∀y∈b.to,Byte y:=to_byt h
theorem cmpV_neg {a b:B32} (ha:BOk a) (hb:BOk b):cmpV a b<0↔ltV a b=true:=by
 unfold cmpV
 rw[cmp_neg a.to b.to rfl (to_byte ha) (to_byte hb)]
 constructor
 ·rintro⟨j,q0,q1,q2⟩
  have hj:j<32:=q0
  rw[pq a j hj,pq b j hj] at q2
  rw[←lt_byte ha hb hj (fun i hi=>by have:=q1 i hi;rwa [pq a i (by omega),pq b i (by omega)] at this) (by omega)]
  exact decide_eq_true q2
 ·intro h
  apply Classical.byContradiction
  intro hn
  have key:∀j,j≤32→∀i,i<j→a.at i=b.at i:=by
   intro j
   induction j with
   | zero=>intro _ i hi;omega
   | succ j ih=>
    intro hj i hi
    rcases Nat.lt_or_ge i j with h1 | h1
    ·exact ih (by omega) i h1
    ·obtain rfl:i=j:=by omega
     apply Classical.byContradiction
     intro hne
     have hl:=lt_byte ha hb (show i<32 by omega) (ih (by omega)) hne
     rw[h,decide_eq_true_eq] at hl
     exact hn ⟨i,by show i<32;omega,fun k hk=>by rw[pq a k (by omega),pq b k (by omega)];exact ih (by omega) k hk,by rw[pq a i (by omega),pq b i (by omega)];exact hl⟩
  obtain rfl:=ou (key 32 (Nat.le_refl _))
  rw[lt_irrefl] at h
  cases h
namespace bcmp
noncomputable abbrev fn:=Tryd.f67
noncomputable def body:Code:=d9 fn
noncomputable def Γ {G:Glob}:Cons Tryd.prog G:=[cmpx_con]
def M (r:Int):List (Option SV):=aD 8 0 [(4,.o (.a (aG .i64 r)))]
def mem (xs ys:List Int) (t1 t2:TypeId):List Blk:=[⟨false,t1,.pre .u8 xs⟩,⟨false,t2,.pre .u8 ys⟩]
theorem ids (xs ys:List Int) (t1 t2:TypeId) (r:Int):oI (M r) (mem xs ys t1 t2):=by delta oI;kernel_rfl
theorem s {G:Glob} (xs ys:List Int) (n1 n2 c1 c2:Nat) (t1 t2:TypeId) (r:Int):oX (Γ (G:=G)) 100 body (aK fn [.o (.a (.sld 0 0 0 n1 c1)),.o (.a (.sld 1 0 0 n2 c2))]) (mem xs ys t1 t2) [(7,[.n r])] .ret (M r) (mem xs ys t1 t2) [0+n1≤xs.length,0+n2≤ys.length,cmpI ((xs.drop 0).take n1) ((ys.drop 0).take n2)=r]:=by delta oX;kernel_rfl
theorem zr (r:Int) (xs ys:List Int) (t1 t2:TypeId) (g:Nat→SV):eRes tys (fill g 0 (M r)) (fun k=>(mem xs ys t1 t2)[k]?) fn.results.toList=some [.a (aG .i64 r)]:=by kernel_rfl
theorem run {G:Glob} (xs ys:List Int) (n1 n2 c1 c2:Nat) (t1 t2:TypeId) (h1:xs.length=n1) (h2:ys.length=n2):aF Tryd.prog G 2 body (aK fn [.o (.a (.sld 0 0 0 n1 c1)),.o (.a (.sld 1 0 0 n2 c2))]) (mem xs ys t1 t2) (aH tys fn (bJ (.o (.a (aG .i64 (cmpI xs ys)))) .none)):=
 Runs.au aj mixed (s xs ys n1 n2 c1 c2 t1 t2 (cmpI xs ys)) ⟨by omega,by omega,by rw[dt h1,dt h2],trivial⟩ (ids _ _ _ _ _) rfl fun g=>aH.ret (zr _ _ _ _ _ g) rfl
noncomputable def spec:List aU→Option (SV × dH × Cst)
 | [.win .u8 xs n t,.win .u8 ys m u]=>some (.o (.a (aG .i64 (cmpI xs ys))),.none,[])
 | _=>none
noncomputable def con {G:Glob}:Con Tryd.prog G:=Con.parts aj 67 fn Tryd.func67 (by kernel_rfl) (c:=body) (by kernel_rfl) [.win .u8,.win .u8] spec
 (fun ps r e p h hp=>by
  unfold spec at h
  split at h<;>cases h
  refine⟨rfl,fun b hb=> ?_⟩
  simp only[bf,aU.blk,List.cons_append,List.nil_append,List.mem_cons,List.not_mem_nil,or_false] at hb
  rcases hb with rfl | rfl<;>rfl)
 (fun ps r e p cap h hp hi=>by
  unfold spec at h
  split at h<;>cases h
  obtain⟨⟨h1,_⟩,⟨h2,_⟩,_⟩:=hi
  exact run _ _ _ _ _ _ _ _ h1 h2)
end bcmp
end Go.Proofs.YtdccehmekkcheaaDoor

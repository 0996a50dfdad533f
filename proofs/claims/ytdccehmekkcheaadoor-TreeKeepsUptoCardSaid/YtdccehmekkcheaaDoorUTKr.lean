/- The law TreeKeeps: run. -/
import Derived.Test.YtdccehmekkcheaaDoorUTKf
namespace Go.Proofs.YtdccehmekkcheaaDoor
open Go Go.Eng Go.RowKit
set_option linter.unusedVariables false
set_option linter.unusedSimpArgs false
set_option maxRecDepth 100000
theorem flat_lf:FlatEq Tryd.prog 30 (List.replicate 64 .u8):=FlatEq.of Tryd.underlying30 (by kernel_rfl) (by kernel_rfl) (by kernel_rfl)
theorem putV_len {a:Nat} {ys vs:List Value} (h:a+ys.length≤vs.length):(putV a ys vs).length=vs.length:=by
 unfold putV
 rw[List.length_append,List.length_append,List.length_take,List.length_drop]
 omega
theorem lvR (l:List Lf) (z:Lf):lvals (l++[z])=lvals l++z.vals:=by rw[lvals_app,show lvals [z]=z.vals from List.append_nil _]
theorem ld_room (l:List Lf):0+offI (offI 0 (l.length:Int) 64+32) 0 1<(lvals (l++[lf77])).length∧(lvals (l++[lf77])).getD (0+offI (offI 0 (l.length:Int) 64+32) 0 1) undef= .int .u8 77:=by
 have o:=offs l.length 64
 have e:0+offI (offI 0 (l.length:Int) 64+32) 0 1=l.length*64+32:=by rw[offI_eq];simp;omega
 rw[e,bR,List.length_append,List.length_singleton]
 refine⟨by omega,?_⟩
 rw[getV_flat Lf.vals_len (l++[lf77]) zl 32 (by rw[List.length_append,List.length_singleton];omega) (by omega)]
 have:(l++[lf77]).getD l.length zl=lf77:=by simp[List.getD]
 rw[this]
 rfl
theorem ld_node77 (l:List Nd):0+(offI 0 (l.length:Int) 65+0)<(ah (l++[nd77])).length∧(ah (l++[nd77])).getD (0+(offI 0 (l.length:Int) 65+0)) undef= .int .i64 77:=by
 have o:=offs l.length 65
 have e:0+(offI 0 (l.length:Int) 65+0)=l.length*65+0:=by omega
 rw[e,aR,List.length_append,List.length_singleton]
 refine⟨by omega,?_⟩
 rw[getV_flat Nd.vals_len (l++[nd77]) zn 0 (by rw[List.length_append,List.length_singleton];omega) (by omega)]
 have:(l++[nd77]).getD l.length zn=nd77:=by simp[List.getD]
 rw[this]
 rfl
theorem pre_room (l:List Lf) {n:Nat} (hn:l.length=n) (z:Lf):((lvals (l++[z])).drop (0+0)).take (n*64)=lvals l:=by
 rw[Nat.add_zero,List.drop_zero,lvR,List.take_append_of_le_length (by rw[bR,hn];exact Nat.le_refl _),List.take_of_length_le (by rw[bR,hn];exact Nat.le_refl _)]
theorem pre_node (l:List Nd) {n:Nat} (hn:l.length=n) (z:Nd):((ah (l++[z])).drop (0+0)).take (n*65)=ah l:=by
 rw[Nat.add_zero,List.drop_zero,nvals_app,List.take_append_of_le_length (by rw[aR,hn];exact Nat.le_refl _),List.take_of_length_le (by rw[aR,hn];exact Nat.le_refl _)]
namespace ltke
namespace w
theorem kept (H:Nd→Nd→B32) (hH:H=hV) (E:B32) (hE':E=hE) (S:Nd→B32) (hS':S=hS) (l:List Lf) (n c:Nat) (ty:TypeId) (x:B32) (hn:l.length=n) (hb:n≤2000000) (hx:BOk x) (g:Nat→SV):aC Tryd.prog GT 1 (csuf 3 S19) (fill g 0 (MnO H hH E hE' S hS' l n c ty x)) (mnO H hH E hE' S hS' l n c ty x (lvals (l++[lf77])) nd77.vals) (aG tys fn (aS (aI.enc true) .none)):=by
 rw[suf_19]
 obtain⟨r1,r2⟩:=ld_room l
 rw[hn] at r1 r2
 refine Runs.seq (Runs.aK aj mixed [0,2] (kO H hH E hE' S hS' l n c ty x (lvals (l++[lf77])) nd77.vals g) ⟨by omega,by omega,by omega,by omega,r1,congrArg (fun v=>SV.o (.a (.v v))) r2,by omega,by omega,Nat.lt_of_lt_of_eq (by decide:(0:Nat)<65) rfl,rfl,by omega,by omega,Nat.zero_le _,by omega,rfl,trivial⟩ (ikO H hH E hE' S hS' l n c ty x _) rfl fun g=> ?_)
 refine Runs.seq (Runs.seq (Runs.au aj mixed (a23O H hH E hE' S hS' l n c ty x (lvals (l++[lf77])) g) trivial (ilO H hH E hE' S hS' l n c ty x _ _) rfl fun g=> ?_))
 refine Runs.block ?_
 refine Runs.bC (fun(i:Nat)=>MlO H hH E hE' S hS' l n c ty x (i:Int)) (fun _=>mkO H hH E hE' S hS' l n c ty x (lvals (l++[lf77])) ) (fun i=>i≤n) (fun i=>n-i) ?_ 0 (Nat.zero_le _) g
 rintro i g hi
 rcases Nat.lt_or_ge i n with h | h
 ·obtain⟨c1,c2⟩:=dst.ld_leaf l (show i<l.length by omega)
  obtain⟨d1,d2⟩:=dst.ld_leaf (l++[lf77]) (show i<(l++[lf77]).length by rw[List.length_append];omega)
  have e:(l++[lf77]).getD i zl=l.getD i zl:=by rw[List.getD_eq_getElem?_getD,List.getElem?_append_left (by omega),←List.getD_eq_getElem?_getD]
  rw[e] at d2
  refine Runs.au aj mixed (seO H hH E hE' S hS' l n c ty x (lvals (l++[lf77])) i ((i+1:Nat):Int) _ g) ⟨decide_eq_true (by omega),by omega,by omega,d1,d2,by omega,by omega,c1,c2,flat_lf,eqL_refl _,by rw[IntKind.wrap_i64];omega,trivial⟩ (ilO H hH E hE' S hS' l n c ty x _ _) rfl fun g=> ?_
  exact⟨i+1,g,rfl,rfl,by omega,by omega⟩
 ·obtain rfl:i=n:=by omega
  refine Runs.au aj mixed (oeO H hH E hE' S hS' l i c ty x (lvals (l++[lf77])) _ g) ⟨decide_eq_false (by omega),trivial⟩ (ikO H hH E hE' S hS' l i c ty x _ ) rfl fun g=> ?_
  show aC _ _ _ _ _ _ _
  exact Runs.aK aj mixed [0] (dO H hH E hE' S hS' l i c ty x (lvals (l++[lf77])) g) trivial (by kernel_rfl) rfl fun g=>aG.ret (zr g _) rfl
noncomputable def MA (H:Nd→Nd→B32) (hH:H=hV) (E:B32) (hE':E=hE) (S:Nd→B32) (hS':S=hS) (l:List Lf) (n c:Nat) (ty:TypeId) (x:B32):Nat→List (Option SV)
 | 0=>MzO H hH E hE' S hS' l n c ty x
 | i+1=>MaO H hH E hE' S hS' l n c ty x (i+1) ((i+1:Nat):Int)
noncomputable def mA (H:Nd→Nd→B32) (hH:H=hV) (E:B32) (hE':E=hE) (S:Nd→B32) (hS':S=hS) (l:List Lf) (n c:Nat) (ty:TypeId) (x:B32) (us:List Value):Nat × List Value→List Blk
 | (0,_)=>m8O H hH E hE' S hS' l n c ty x us
 | (i+1,av)=>maO H hH E hE' S hS' l n c ty x us av (i+1) none
section
variable (H:Nd→Nd→B32) (hH:H=hV) (E:B32) (hE':E=hE) (S:Nd→B32) (hS':S=hS) (l:List Lf) (n c:Nat) (ty:TypeId) (x:B32)
theorem restO (hn:l.length=n) (hb:n≤2000000) (hx:BOk x) (g:Nat→SV):aC Tryd.prog GT 1 (csuf 5 S3) (fill g 0 (M8O H hH E hE' S hS' l n c ty x)) (m8O H hH E hE' S hS' l n c ty x (lvals (l++[lf77]))) (aG tys fn (aS (aI.enc true) .none)):=by
 rw[suf_3]
 refine Runs.seq (Runs.seq (Runs.au aj mixed (a9O H hH E hE' S hS' l n c ty x _ g) trivial (i9O H hH E hE' S hS' l n c ty x _) rfl fun g=> ?_))
 refine Runs.block ?_
 refine Runs.bC (fun(_:Unit)=>M9O H hH E hE' S hS' l n c ty x) (fun _=>m8O H hH E hE' S hS' l n c ty x (lvals (l++[lf77]))) (fun _=>True) (fun _=>0) ?_ () trivial g
 rintro _ g _
 refine Runs.au aj mixed (o9O H hH E hE' S hS' l n c ty x _ g) trivial (i8O H hH E hE' S hS' l n c ty x _) rfl fun g=> ?_
 show aC _ _ _ _ _ _ _
 refine Runs.seq (Runs.seq (Runs.au aj mixed (a14O H hH E hE' S hS' l n c ty x _ g) trivial (izO H hH E hE' S hS' l n c ty x _) rfl fun g=> ?_))
 refine Runs.block ?_
 refine Runs.bC (fun(s:Nat × List Value)=>MA H hH E hE' S hS' l n c ty x s.1) (fun s=>mA H hH E hE' S hS' l n c ty x (lvals (l++[lf77])) s) (fun s=>s.1≤20∧(0<s.1→s.2.length=s.1*65)) (fun s=>20-s.1) ?_ (0,[]) ⟨Nat.zero_le _,fun h=>absurd h (by omega)⟩ g
 rintro⟨i,av⟩ g ⟨hi,hav⟩
 have hi:i≤20:=hi
 cases i with
 | zero=>
  refine Runs.aK aj mixed [0,1,2,4] (zyO H hH E hE' S hS' l n c ty x _ g) ⟨rfl,by decide,by omega,roomN 1 (by omega),trivial⟩ (iaO H hH E hE' S hS' l n c ty x _ _ _ _ _ _) rfl fun g=> ?_
  exact⟨(1,(⟨-7,zB,zB⟩:Nd).vals),g,rfl,rfl,⟨by omega,fun _=>rfl⟩,by omega⟩
 | succ i=>
  have hav:av.length=(i+1)*65:=hav (by omega)
  show aC _ _ _ _ (fill g 0 (MaO H hH E hE' S hS' l n c ty x (i+1) ((i+1:Nat):Int))) (maO H hH E hE' S hS' l n c ty x _ av (i+1) none) _
  rcases Nat.lt_or_ge (i+1) 20 with h | h
  ·have hw:IntKind.i64.wrap (((i+1:Nat):Int)+1)=((i+1+1:Nat):Int):=by rw[IntKind.wrap_i64];omega
   have hl:(av++(⟨-7,zB,zB⟩:Nd).vals).length=(i+1+1)*65:=by rw[List.length_append,hav,Nd.vals_len];omega
   refine Runs.roomV 3 (i+1+1) (own:=true) (ty:=33) (s:=65) (vs:=av) (lo:=i+1) rfl ?_ ?_
   ·refine Runs.au aj mixed (sgO H hH E hE' S hS' l n c ty x _ av (i+1) _ ((i+1+1:Nat):Int) g) ⟨decide_eq_true (by omega),rfl,by decide,by omega,Nat.le_refl _,oneV _,hw,trivial⟩ (iaO H hH E hE' S hS' l n c ty x _ _ _ _ _ _) rfl fun g=> ?_
    exact⟨(i+1+1,_),g,rfl,rfl,⟨by omega,fun _=>hl⟩,by omega⟩
   ·refine Runs.aK aj mixed [0,1,2,5] (srO H hH E hE' S hS' l n c ty x _ av (i+1) (i+1) _ ((i+1+1:Nat):Int) g) ⟨decide_eq_true (by omega),rfl,by decide,by omega,Nat.le_refl _,roomN _ (by omega),hw,trivial⟩ (iaO H hH E hE' S hS' l n c ty x _ _ _ _ _ _) rfl fun g=> ?_
    exact⟨(i+1+1,_),g,rfl,rfl,⟨by omega,fun _=>hl⟩,by omega⟩
  ·refine Runs.aK aj mixed [0,1,2] (osO H hH E hE' S hS' l n c ty x _ av _ _ _ _ g) ⟨decide_eq_false (by omega),trivial⟩ (ibO H hH E hE' S hS' l n c ty x _) rfl fun g=> ?_
   show aC _ _ _ _ _ _ _
   refine Runs.seq (Runs.aK aj mixed [0,1,2,5] (r18O H hH E hE' S hS' l n c ty x _ g) ⟨rfl,by decide,by omega,roomN 1 (by omega),trivial⟩ (inO H hH E hE' S hS' l n c ty x _ _) rfl fun g=> ?_)
   show aC _ _ _ _ _ _ _
   have z:=vO H hH E hE' S hS' l n c ty x (lvals (l++[lf77])) nd77.vals (rootV H E S []).1 (rootV H E S []).2 (ovV H []).1 (ovV H []).2 (foundV H E S zB [] x).1 (foundV H E S zB [] x).2.1 (foundV H E S zB [] x).2.2 g
   rw[show(nd77.vals.drop (0+0)).take (0*65)=[] from rfl,dec0'] at z
   have b0:0<aQ:=by unfold aQ;omega
   have k0:aL []:=fun x hx=>by cases hx
   refine Runs.bD aj mixed 3 z ⟨by omega,by omega,Nat.zero_le _,by omega,rfl,rfl,b0,k0,rfl,by omega,by omega,Nat.zero_le _,by omega,rfl,rfl,b0,k0,rfl,by omega,by omega,Nat.zero_le _,by omega,rfl,rfl,b0,k0,hx,rfl,trivial⟩ (inO H hH E hE' S hS' l n c ty x _ _) (by kernel_rfl) fun g=> ?_
   exact kept H hH E hE' S hS' l n c ty x hn hb hx g
theorem keptP (hn:l.length=n) (hb:n≤2000000) (hx:BOk x) (T:List Nd) (hT:T≠[]) (hk:aL T) (hTn:T.length≤n) (g:Nat→SV):aC Tryd.prog GT 1 S19 (fill g 0 (MnP H hH E hE' S hS' l n c ty x T.length)) (mnP H hH E hE' S hS' l n c ty x (lvals (l++[lf77])) (ah T) (ah T) (ah (T++[nd77])) T.length (T.length+1) none) (aG tys fn (aS (aI.enc true) .none)):=by
 have dT:((ah T).drop (0+0)).take (T.length*65)=ah T:=dtn rfl
 have hdP:=pre_node T rfl nd77
 have lT:=aR T
 have lN:(ah (T++[nd77])).length=(T.length+1)*65:=by rw[aR,List.length_append,List.length_singleton]
 have bT:T.length<aQ:=by unfold aQ;omega
 have z:=vP H hH E hE' S hS' l n c ty x (lvals (l++[lf77])) (ah T) (ah T) (ah (T++[nd77])) T.length (rootV H E S T).1 (rootV H E S T).2 (ovV H T).1 (ovV H T).2 (foundV H E S zB T x).1 (foundV H E S zB T x).2.1 (foundV H E S zB T x).2.2 g
 rw[hdP,aU] at z
 refine Runs.bD aj mixed 3 z ⟨by omega,by omega,by omega,by omega,rfl,rfl,bT,hk,rfl,by omega,by omega,by omega,by omega,rfl,rfl,bT,hk,rfl,by omega,by omega,by omega,by omega,rfl,rfl,bT,hk,hx,rfl,trivial⟩ (inP H hH E hE' S hS' l n c ty x _ _ _ _ _ _ _) (by kernel_rfl) fun g=> ?_
 rw[suf_19]
 obtain⟨r1,r2⟩:=ld_room l
 obtain⟨t1,t2⟩:=ld_node77 T
 rw[hn] at r1 r2
 refine Runs.seq (Runs.aK aj mixed [0,2,3,4] (kP H hH E hE' S hS' l n c ty x (lvals (l++[lf77])) (ah T) (ah T) (ah (T++[nd77])) T.length g) ⟨by omega,by omega,by omega,by omega,r1,congrArg (fun v=>SV.o (.a (.v v))) r2,by omega,by omega,t1,congrArg (fun v=>SV.o (.a (.v v))) t2,by omega,by omega,by omega,by omega,by omega,Nat.le_refl _,by rw[hdP,dT],rfl,by rw[hdP,aU],by rw[hdP,aU],by omega,trivial⟩ (ikP H hH E hE' S hS' l n c ty x _ _ _ _) rfl fun g=> ?_)
 refine Runs.seq (Runs.seq (Runs.au aj mixed (a23P H hH E hE' S hS' l n c ty x (lvals (l++[lf77])) (ah T) (ah T) T.length g) trivial (ilP H hH E hE' S hS' l n c ty x _ _ _ _ _) rfl fun g=> ?_))
 refine Runs.block ?_
 refine Runs.bC (fun(i:Nat)=>MlP H hH E hE' S hS' l n c ty x T.length (i:Int)) (fun _=>mkP H hH E hE' S hS' l n c ty x (lvals (l++[lf77])) (ah T) (ah T) T.length ) (fun i=>i≤n) (fun i=>n-i) ?_ 0 (Nat.zero_le _) g
 rintro i g hi
 rcases Nat.lt_or_ge i n with h | h
 ·obtain⟨c1,c2⟩:=dst.ld_leaf l (show i<l.length by omega)
  obtain⟨d1,d2⟩:=dst.ld_leaf (l++[lf77]) (show i<(l++[lf77]).length by rw[List.length_append];omega)
  have e:(l++[lf77]).getD i zl=l.getD i zl:=by rw[List.getD_eq_getElem?_getD,List.getElem?_append_left (by omega),←List.getD_eq_getElem?_getD]
  rw[e] at d2
  refine Runs.au aj mixed (seP H hH E hE' S hS' l n c ty x (lvals (l++[lf77])) (ah T) (ah T) T.length i ((i+1:Nat):Int) _ g) ⟨decide_eq_true (by omega),by omega,by omega,d1,d2,by omega,by omega,c1,c2,flat_lf,eqL_refl _,by rw[IntKind.wrap_i64];omega,trivial⟩ (ilP H hH E hE' S hS' l n c ty x _ _ _ _ _) rfl fun g=> ?_
  exact⟨i+1,g,rfl,rfl,by omega,by omega⟩
 ·obtain rfl:i=n:=by omega
  refine Runs.au aj mixed (oeP H hH E hE' S hS' l i c ty x (lvals (l++[lf77])) (ah T) (ah T) T.length _ g) ⟨decide_eq_false (by omega),trivial⟩ (ikP H hH E hE' S hS' l i c ty x _ _ _ _ ) rfl fun g=> ?_
  show aC _ _ _ _ _ _ _
  exact Runs.aK aj mixed [0] (dP H hH E hE' S hS' l i c ty x (lvals (l++[lf77])) (ah T) (ah T) T.length g) ⟨by rw[aR];omega,Nat.le_refl _,by rw[aR];omega,Nat.le_refl _,rfl,rfl,by rw[dT,aU],by rw[dT,aU],by omega,trivial⟩ (by kernel_rfl) rfl fun g=>aG.ret (zr g _) rfl
theorem restP (hn:l.length=n) (hb:n≤2000000) (hx:BOk x) (T:List Nd) (hT:T≠[]) (hk:aL T) (hTn:T.length≤n) (g:Nat→SV):aC Tryd.prog GT 1 (csuf 5 S3) (fill g 0 (M8P H hH E hE' S hS' l n c ty x T.length)) (m8P H hH E hE' S hS' l n c ty x (lvals (l++[lf77])) (ah T) (ah T) (ah T) T.length) (aG tys fn (aS (aI.enc true) .none)):=by
 have dT:((ah T).drop (0+0)).take (T.length*65)=ah T:=dtn rfl
 have lT:=aR T
 have hp:=List.length_pos_iff.2 hT
 rw[suf_3]
 refine Runs.seq (Runs.seq (Runs.au aj mixed (a9P H hH E hE' S hS' l n c ty x _ _ _ _ _ g) trivial (i9P H hH E hE' S hS' l n c ty x _ _ _ _ _ _) rfl fun g=> ?_))
 refine Runs.block ?_
 refine Runs.bC (fun(s:Nat × List Value)=>M9P H hH E hE' S hS' l n c ty x T.length ((s.1:Nat):Int)) (fun s=>m8P H hH E hE' S hS' l n c ty x (lvals (l++[lf77])) s.2 (ah T) (ah T) T.length) (fun s=>s.1≤T.length∧s.2.length=T.length*65) (fun s=>T.length-s.1) ?_ (0,ah T) ⟨Nat.zero_le _,lT⟩ g
 rintro⟨i,ta⟩ g ⟨hi,hta⟩
 have hi:i≤T.length:=hi
 have hta:ta.length=T.length*65:=hta
 show aC _ _ _ _ (fill g 0 (M9P H hH E hE' S hS' l n c ty x T.length (i:Int))) (m8P H hH E hE' S hS' l n c ty x _ ta _ _ _) _
 rcases Nat.lt_or_ge i T.length with h | h
 ·have o65:=offs i 65
  have hb5:i*65+65≤T.length*65:=by have:=Nat.mul_le_mul_right 65 (show i+1≤T.length by omega);omega
  refine Runs.au aj mixed (s9P H hH E hE' S hS' l n c ty x _ ta _ _ _ i ((i+1:Nat):Int) g) ⟨decide_eq_true (by omega),by omega,by omega,by omega,by rw[IntKind.wrap_i64];omega,trivial⟩ (i9P H hH E hE' S hS' l n c ty x _ _ _ _ _ _) rfl fun g=> ?_
  exact⟨(i+1,_),g,rfl,rfl,⟨by show i+1≤_;omega,by show(putV (0+offI 0 (i:Int) 65) [Value.int .i64 (-7)] ta).length=_;rw[putV_len (by rw[o65];show i*65+1≤_;omega)];exact hta⟩,by show T.length-(i+1)<T.length-i;omega⟩
 ·obtain rfl:i=T.length:=by omega
  refine Runs.au aj mixed (o9P H hH E hE' S hS' l n c ty x _ ta _ _ _ _ g) ⟨decide_eq_false (by omega),trivial⟩ (i8P H hH E hE' S hS' l n c ty x _ _ _ _ _) rfl fun g=> ?_
  show aC _ _ _ _ _ _ _
  refine Runs.seq (Runs.seq (Runs.au aj mixed (a14P H hH E hE' S hS' l n c ty x _ _ _ _ _ g) trivial (iaP H hH E hE' S hS' l n c ty x _ _ _ _ _ _ _ _ _) rfl fun g=> ?_))
  refine Runs.block ?_
  refine Runs.bC (fun(s:Nat × List Value)=>MaP H hH E hE' S hS' l n c ty x T.length (T.length+s.1) ((s.1:Nat):Int)) (fun s=>maP H hH E hE' S hS' l n c ty x (lvals (l++[lf77])) s.2 (T.length+s.1) none (ah T) (ah T) T.length) (fun s=>s.1≤20∧s.2.length=(T.length+s.1)*65) (fun s=>20-s.1) ?_ (0,ta) ⟨Nat.zero_le _,hta⟩ g
  rintro⟨i,av⟩ g ⟨hi,hav⟩
  have hi:i≤20:=hi
  have hav:av.length=(T.length+i)*65:=hav
  show aC _ _ _ _ (fill g 0 (MaP H hH E hE' S hS' l n c ty x T.length (T.length+i) (i:Int))) (maP H hH E hE' S hS' l n c ty x _ av (T.length+i) none _ _ _) _
  rcases Nat.lt_or_ge i 20 with h | h
  ·have hw:IntKind.i64.wrap ((i:Int)+1)=((i+1:Nat):Int):=by rw[IntKind.wrap_i64];omega
   have hl:(av++(⟨-7,zB,zB⟩:Nd).vals).length=(T.length+(i+1))*65:=by rw[List.length_append,hav,Nd.vals_len];omega
   refine Runs.roomV 3 (T.length+i+1) (own:=true) (ty:=33) (s:=65) (vs:=av) (lo:=T.length+i) rfl ?_ ?_
   ·refine Runs.au aj mixed (sgP H hH E hE' S hS' l n c ty x _ av _ _ _ (T.length+i) _ ((i+1:Nat):Int) g) ⟨decide_eq_true (by omega),rfl,by decide,by omega,Nat.le_refl _,oneV _,hw,trivial⟩ (iaP H hH E hE' S hS' l n c ty x _ _ _ _ _ _ _ _ _) rfl fun g=> ?_
    exact⟨(i+1,_),g,rfl,rfl,⟨by show i+1≤20;omega,hl⟩,by show 20-(i+1)<20-i;omega⟩
   ·refine Runs.aK aj mixed [0,1,2,7,4,5] (srP H hH E hE' S hS' l n c ty x _ av _ _ _ (T.length+i) (T.length+i) _ ((i+1:Nat):Int) g) ⟨decide_eq_true (by omega),rfl,by decide,by omega,Nat.le_refl _,roomN _ (by omega),hw,trivial⟩ (iaP H hH E hE' S hS' l n c ty x _ _ _ _ _ _ _ _ _) rfl fun g=> ?_
    exact⟨(i+1,_),g,rfl,rfl,⟨by show i+1≤20;omega,hl⟩,by show 20-(i+1)<20-i;omega⟩
  ·refine Runs.aK aj mixed [0,1,2,4,5] (osP H hH E hE' S hS' l n c ty x _ av _ _ _ _ _ _ _ g) ⟨decide_eq_false (by omega),trivial⟩ (ibP H hH E hE' S hS' l n c ty x _ _ _ _) rfl fun g=> ?_
   show aC _ _ _ _ _ _ _
   refine Runs.seq (Runs.region ?_)
   refine aV.aK aj 2 [0,1,2,3,4,5] (n1 H hH E hE' S hS' l n c ty x _ _ _ _ g) ⟨by omega,Nat.le_refl _,rfl,hp,roomN _ (by omega),trivial⟩ (icP H hH E hE' S hS' l n c ty x _ _ _ _ _ _ _) rfl fun g'=> ?_
   rw[dT]
   have ev:ah T++nd77.vals=ah (T++[nd77]):=by rw[nvals_app,nvals_one]
   refine aV.roomV 5 (T.length+1) (own:=true) (ty:=33) (s:=65) (vs:=ah T) (lo:=T.length) rfl ?_ ?_
   ·refine aV.au aj 4 (ng H hH E hE' S hS' l n c ty x _ _ _ (ah T) T.length g') ⟨rfl,by decide,by omega,Nat.le_refl _,oneV _,trivial⟩ (inP H hH E hE' S hS' l n c ty x _ _ _ _ _ _ _) rfl fun g=> ?_
    rw[nil18,ev]
    exact aV.nil (keptP H hH E hE' S hS' l n c ty x hn hb hx T hT hk hTn g)
   ·refine aV.aK aj 4 [0,1,2,3,4,7] (nr H hH E hE' S hS' l n c ty x _ _ _ (ah T) T.length T.length g') ⟨rfl,by decide,by omega,Nat.le_refl _,roomN _ (by omega),trivial⟩ (inP H hH E hE' S hS' l n c ty x _ _ _ _ _ _ _) rfl fun g=> ?_
    rw[nil18,ev]
    exact aV.nil (keptP H hH E hE' S hS' l n c ty x hn hb hx T hT hk hTn g)
theorem back (hn:l.length=n) (hb:n≤2000000) (hx:BOk x) (hc:n≤c) (hok:AllL l) (h0:0<n) (g:Nat→SV):aC Tryd.prog GT 1 S3 (fill g 0 (M3 H hH E hE' S hS' l n c ty x)) (m3 H hH E hE' S hS' l n c ty x (lvals (l++[lf77])) (n+1) none) (aG tys fn (aS (aI.enc true) .none)):=by
 have hp:=pre_room l hn lf77
 have la:(lvals l).length=n*64:=by rw[←hn];exact bR l
 have lr:(lvals (l++[lf77])).length=(n+1)*64:=by rw[bR,List.length_append,List.length_singleton,hn]
 have dY:((lvals l).drop (0+0)).take (n*64)=lvals l:=dtl hn
 have hap:=ap_dup hok
 cases hd:rndD l l.length with
 | true=>
  rw[hd] at hap
  have z:=oE H hH E hE' S hS' l n c ty x (lvals (l++[lf77])) (rofT H E S l).1 (rofT H E S l).2 g
  rw[hp,dY,lfDec_vals] at z
  refine Runs.bD aj mixed 5 z ⟨by omega,by omega,by omega,by omega,rfl,hn,by omega,hok,rfl,by omega,by omega,rfl,hn,by omega,hok,hx,hap,by omega,by omega,rfl,hn,by omega,hok,hx,hap,by omega,hc,rfl,hn,by omega,hok,hx,by rw[←hn];exact hd,trivial⟩ (i8O H hH E hE' S hS' l n c ty x _) (by kernel_rfl) fun g=> ?_
  exact restO H hH E hE' S hS' l n c ty x hn hb hx g
 | false=>
  rw[hd] at hap
  have e:opT H l x=opR H l x:=by rw[hH];exact op_eq hok hd x
  have le:(opT H l x).length≤l.length:=by rw[hH];exact op_len hok hd x
  have hk:aL (opT H l x):=by rw[hH];exact op_ok hok (by rw[←List.length_pos_iff];omega) hd x
  have hne:opT H l x≠[]:=by
   rw[e]
   unfold opR
   exact own_ne H (fun a b=>by rw[hH];exact hV_ok a b) (rnd_ap hok hd) (by rw[←List.length_pos_iff,rndA_len];omega) _
  have z:=oP H hH E hE' S hS' l n c ty x (lvals (l++[lf77])) (rofT H E S l).1 (rofT H E S l).2 g
  rw[hp,dY,lfDec_vals,←e] at z
  refine Runs.of_outNP aj mixed 5 [0,1,2,3,4,5] z ⟨by omega,by omega,by omega,by omega,rfl,hn,by omega,hok,rfl,by omega,by omega,rfl,hn,by omega,hok,hx,h0,hap,by omega,by omega,rfl,hn,by omega,hok,hx,h0,hap,by omega,hc,rfl,hn,by omega,hok,hx,h0,by rw[←hn];exact hd,trivial⟩ (i8Q H hH E hE' S hS' l n c ty x _ _ _ _ _ _) (by kernel_rfl) fun g=> ?_
  exact restP H hH E hE' S hS' l n c ty x hn hb hx (opT H l x) hne hk (by omega) g
end
theorem run (H:Nd→Nd→B32) (hH:H=hV) (E:B32) (hE':E=hE) (S:Nd→B32) (hS':S=hS) (l:List Lf) (n c:Nat) (ty:TypeId) (x:B32) (hn:l.length=n) (hb:n≤2000000) (hx:BOk x) (hc:n≤c) (hok:AllL l):aC Tryd.prog GT 1 body (aH fn [.o (.a (.sld 0 0 0 n c)),cB32.enc x]) [⟨false,ty,.prv (lvals l)⟩] (aG tys fn (aS (aI.enc true) .none)):=by
 have la:(lvals l).length=n*64:=by rw[←hn];exact bR l
 have dY:((lvals l).drop (0+0)).take (n*64)=lvals l:=dtl hn
 refine Runs.bD aj mixed 2 (s0 H hH E hE' S hS' l n c ty x) trivial (i2 H hH E hE' S hS' l n c ty x) (by kernel_rfl) fun g=> ?_
 rcases Nat.eq_zero_or_pos n with h0 | h0
 ·subst h0
  obtain rfl:=List.eq_nil_of_length_eq_zero hn
  rw[suf_2b]
  refine Runs.seq (Runs.aK aj mixed [0,1,4] (cz H hH E hE' S hS' [] 0 c ty x g) ⟨Nat.zero_le _,hc,rfl,rfl,rfl,by decide,by omega,roomLf 1 (by omega),trivial⟩ (i3z H hH E hE' S hS' [] 0 c ty x _ _ _) rfl fun g=> ?_)
  have ev:lf77.vals=lvals ([]++[lf77]):=(List.append_nil _).symm
  rw[ev]
  show aC _ _ _ S3 (fill g 0 (M3 H hH E hE' S hS' [] 0 c ty x)) (m3 H hH E hE' S hS' [] 0 c ty x (lvals ([]++[lf77])) (0+1) none) _
  have hp:=pre_room [] rfl lf77
  have z:=oZ H hH E hE' S hS' [] 0 c ty x (lvals ([]++[lf77])) (rofT H E S []).1 (rofT H E S []).2 g
  rw[show([]:List Lf).length=0 from rfl] at hp
  rw[hp,show((lvals []).drop (0+0)).take (0*64)=lvals [] from rfl,lfDec_vals] at z
  refine Runs.bD aj mixed 5 z ⟨by omega,by omega,by omega,by omega,rfl,rfl,by omega,hok,rfl,by omega,by omega,rfl,rfl,by omega,hok,hx,rfl,by omega,by omega,rfl,rfl,by omega,hok,hx,rfl,by omega,hc,rfl,rfl,by omega,hok,hx,rfl,trivial⟩ (i8O H hH E hE' S hS' [] 0 c ty x _) (by kernel_rfl) fun g=> ?_
  exact restO H hH E hE' S hS' [] 0 c ty x hn hb hx g
 ·rw[suf_2]
  refine Runs.seq (Runs.region ?_)
  refine aV.aK aj 2 [0,1,2] (c1 H hH E hE' S hS' l n c ty x g) ⟨by omega,hc,rfl,h0,roomLf n (by omega),trivial⟩ (iC H hH E hE' S hS' l n c ty x _ _ _) rfl fun g'=> ?_
  rw[dY]
  have ev:lvals l++lf77.vals=lvals (l++[lf77]):=(lvR l lf77).symm
  refine aV.roomV 2 (n+1) (own:=true) (ty:=30) (s:=64) (vs:=lvals l) (lo:=n) rfl ?_ ?_
  ·refine aV.au aj 5 (cg H hH E hE' S hS' l n c ty x (lvals l) g') ⟨rfl,by decide,by omega,Nat.le_refl _,dst.oneLv _,trivial⟩ (i3 H hH E hE' S hS' l n c ty x _ _ _) rfl fun g=> ?_
   rw[nil3,ev]
   exact aV.nil (back H hH E hE' S hS' l n c ty x hn hb hx hc hok h0 g)
  ·refine aV.aK aj 5 [0,1,4] (cr H hH E hE' S hS' l n c ty x (lvals l) n g') ⟨rfl,by decide,by omega,Nat.le_refl _,roomLf _ (by omega),trivial⟩ (i3 H hH E hE' S hS' l n c ty x _ _ _) rfl fun g=> ?_
   rw[nil3,ev]
   exact aV.nil (back H hH E hE' S hS' l n c ty x hn hb hx hc hok h0 g)
end w
namespace n
theorem kept (H:Nd→Nd→B32) (hH:H=hV) (E:B32) (hE':E=hE) (S:Nd→B32) (hS':S=hS) (a:Option Addr) (x:B32) (hx:BOk x) (g:Nat→SV):aC Tryd.prog GT 0 (csuf 3 S19) (fill g 0 (MnO H hH E hE' S hS' a x)) (mnO H hH E hE' S hS' a x (lvals (([]:List Lf)++[lf77])) nd77.vals) (aG tys fn (aS (aI.enc true) .none)):=by
 rw[suf_19]
 obtain⟨r1,r2⟩:=ld_room ([]:List Lf)
 rw[show(([]:List Lf).length:Int)=0 from rfl] at r1 r2
 refine Runs.seq (Runs.aK aj mixed [1] (kO H hH E hE' S hS' a x (lvals (([]:List Lf)++[lf77])) nd77.vals g) ⟨by omega,by omega,by omega,by omega,r1,congrArg (fun v=>SV.o (.a (.v v))) r2,by omega,by omega,Nat.lt_of_lt_of_eq (by decide:(0:Nat)<65) rfl,rfl,by omega,by omega,Nat.zero_le _,by omega,rfl,trivial⟩ (ikO H hH E hE' S hS' a x _) rfl fun g=> ?_)
 refine Runs.seq (Runs.seq (Runs.au aj mixed (a23O H hH E hE' S hS' a x (lvals (([]:List Lf)++[lf77])) g) trivial (ilO H hH E hE' S hS' a x _) rfl fun g=> ?_))
 refine Runs.block ?_
 refine Runs.bC (fun(_:Unit)=>MlO H hH E hE' S hS' a x) (fun _=>mkO H hH E hE' S hS' a x (lvals (([]:List Lf)++[lf77]))) (fun _=>True) (fun _=>0) ?_ () trivial g
 rintro _ g _
 refine Runs.au aj mixed (oeO H hH E hE' S hS' a x (lvals (([]:List Lf)++[lf77])) g) trivial (ikO H hH E hE' S hS' a x _) rfl fun g=> ?_
 show aC _ _ _ _ _ _ _
 exact Runs.aK aj mixed [] (dO H hH E hE' S hS' a x (lvals (([]:List Lf)++[lf77])) g) trivial (by kernel_rfl) rfl fun g=>aG.ret (zr g _) rfl
noncomputable def MA (H:Nd→Nd→B32) (hH:H=hV) (E:B32) (hE':E=hE) (S:Nd→B32) (hS':S=hS) (a:Option Addr) (x:B32):Nat→List (Option SV)
 | 0=>MzO H hH E hE' S hS' a x
 | i+1=>MaO H hH E hE' S hS' a x (i+1) ((i+1:Nat):Int)
noncomputable def mA (H:Nd→Nd→B32) (hH:H=hV) (E:B32) (hE':E=hE) (S:Nd→B32) (hS':S=hS) (a:Option Addr) (x:B32) (us:List Value):Nat × List Value→List Blk
 | (0,_)=>m8O H hH E hE' S hS' a x us
 | (i+1,av)=>maO H hH E hE' S hS' a x us av (i+1) none
theorem restO (H:Nd→Nd→B32) (hH:H=hV) (E:B32) (hE':E=hE) (S:Nd→B32) (hS':S=hS) (a:Option Addr) (x:B32) (hx:BOk x) (g:Nat→SV):aC Tryd.prog GT 0 (csuf 5 S3) (fill g 0 (M8O H hH E hE' S hS' a x)) (m8O H hH E hE' S hS' a x (lvals (([]:List Lf)++[lf77]))) (aG tys fn (aS (aI.enc true) .none)):=by
 rw[suf_3]
 refine Runs.seq (Runs.seq (Runs.au aj mixed (a9O H hH E hE' S hS' a x _ g) trivial (i9O H hH E hE' S hS' a x _) rfl fun g=> ?_))
 refine Runs.block ?_
 refine Runs.bC (fun(_:Unit)=>M9O H hH E hE' S hS' a x) (fun _=>m8O H hH E hE' S hS' a x (lvals (([]:List Lf)++[lf77]))) (fun _=>True) (fun _=>0) ?_ () trivial g
 rintro _ g _
 refine Runs.au aj mixed (o9O H hH E hE' S hS' a x _ g) trivial (i8O H hH E hE' S hS' a x _) rfl fun g=> ?_
 show aC _ _ _ _ _ _ _
 refine Runs.seq (Runs.seq (Runs.au aj mixed (a14O H hH E hE' S hS' a x _ g) trivial (izO H hH E hE' S hS' a x _) rfl fun g=> ?_))
 refine Runs.block ?_
 refine Runs.bC (fun(s:Nat × List Value)=>MA H hH E hE' S hS' a x s.1) (fun s=>mA H hH E hE' S hS' a x (lvals (([]:List Lf)++[lf77])) s) (fun s=>s.1≤20∧(0<s.1→s.2.length=s.1*65)) (fun s=>20-s.1) ?_ (0,[]) ⟨Nat.zero_le _,fun h=>absurd h (by omega)⟩ g
 rintro⟨i,av⟩ g ⟨hi,hav⟩
 have hi:i≤20:=hi
 cases i with
 | zero=>
  refine Runs.aK aj mixed [0,1,3] (zyO H hH E hE' S hS' a x _ g) ⟨rfl,by decide,by omega,roomN 1 (by omega),trivial⟩ (iaO H hH E hE' S hS' a x _ _ _ _ _ _) rfl fun g=> ?_
  exact⟨(1,(⟨-7,zB,zB⟩:Nd).vals),g,rfl,rfl,⟨by omega,fun _=>rfl⟩,by omega⟩
 | succ i=>
  have hav:av.length=(i+1)*65:=hav (by omega)
  show aC _ _ _ _ (fill g 0 (MaO H hH E hE' S hS' a x (i+1) ((i+1:Nat):Int))) (maO H hH E hE' S hS' a x _ av (i+1) none) _
  rcases Nat.lt_or_ge (i+1) 20 with h | h
  ·have hw:IntKind.i64.wrap (((i+1:Nat):Int)+1)=((i+1+1:Nat):Int):=by rw[IntKind.wrap_i64];omega
   have hl:(av++(⟨-7,zB,zB⟩:Nd).vals).length=(i+1+1)*65:=by rw[List.length_append,hav,Nd.vals_len];omega
   refine Runs.roomV 2 (i+1+1) (own:=true) (ty:=33) (s:=65) (vs:=av) (lo:=i+1) rfl ?_ ?_
   ·refine Runs.au aj mixed (sgO H hH E hE' S hS' a x _ av (i+1) _ ((i+1+1:Nat):Int) g) ⟨decide_eq_true (by omega),rfl,by decide,by omega,Nat.le_refl _,oneV _,hw,trivial⟩ (iaO H hH E hE' S hS' a x _ _ _ _ _ _) rfl fun g=> ?_
    exact⟨(i+1+1,_),g,rfl,rfl,⟨by omega,fun _=>hl⟩,by omega⟩
   ·refine Runs.aK aj mixed [0,1,4] (srO H hH E hE' S hS' a x _ av (i+1) (i+1) _ ((i+1+1:Nat):Int) g) ⟨decide_eq_true (by omega),rfl,by decide,by omega,Nat.le_refl _,roomN _ (by omega),hw,trivial⟩ (iaO H hH E hE' S hS' a x _ _ _ _ _ _) rfl fun g=> ?_
    exact⟨(i+1+1,_),g,rfl,rfl,⟨by omega,fun _=>hl⟩,by omega⟩
  ·refine Runs.aK aj mixed [0,1] (osO H hH E hE' S hS' a x _ av _ _ _ _ g) ⟨decide_eq_false (by omega),trivial⟩ (ibO H hH E hE' S hS' a x _) rfl fun g=> ?_
   show aC _ _ _ _ _ _ _
   refine Runs.seq (Runs.aK aj mixed [0,1,4] (r18O H hH E hE' S hS' a x _ g) ⟨rfl,by decide,by omega,roomN 1 (by omega),trivial⟩ (inO H hH E hE' S hS' a x _ _) rfl fun g=> ?_)
   show aC _ _ _ _ _ _ _
   have z:=vO H hH E hE' S hS' a x (lvals (([]:List Lf)++[lf77])) nd77.vals (rootV H E S []).1 (rootV H E S []).2 (ovV H []).1 (ovV H []).2 (foundV H E S zB [] x).1 (foundV H E S zB [] x).2.1 (foundV H E S zB [] x).2.2 g
   rw[show(nd77.vals.drop (0+0)).take (0*65)=[] from rfl,dec0'] at z
   have b0:0<aQ:=by unfold aQ;omega
   have k0:aL []:=fun x hx=>by cases hx
   refine Runs.bD aj mixed 3 z ⟨by omega,by omega,Nat.zero_le _,by omega,rfl,rfl,b0,k0,rfl,by omega,by omega,Nat.zero_le _,by omega,rfl,rfl,b0,k0,rfl,by omega,by omega,Nat.zero_le _,by omega,rfl,rfl,b0,k0,hx,rfl,trivial⟩ (inO H hH E hE' S hS' a x _ _) (by kernel_rfl) fun g=> ?_
   exact kept H hH E hE' S hS' a x hx g
theorem run (H:Nd→Nd→B32) (hH:H=hV) (E:B32) (hE':E=hE) (S:Nd→B32) (hS':S=hS) (a:Option Addr) (x:B32) (hx:BOk x):aC Tryd.prog GT 0 body (aH fn [.o (.a (.v (.slice a 0 0))),cB32.enc x]) [] (aG tys fn (aS (aI.enc true) .none)):=by
 refine Runs.bD aj mixed 2 (s0 H hH E hE' S hS' a x) trivial (i2 H hH E hE' S hS' a x) (by kernel_rfl) fun g=> ?_
 rw[suf_2b]
 refine Runs.seq (Runs.aK aj mixed [0,3] (cz H hH E hE' S hS' a x g) ⟨rfl,by decide,by omega,roomLf 1 (by omega),trivial⟩ (i3z H hH E hE' S hS' a x _ _ _) rfl fun g=> ?_)
 have ev:lf77.vals=lvals ([]++[lf77]):=(List.append_nil _).symm
 rw[ev]
 show aC _ _ _ S3 (fill g 0 (M3 H hH E hE' S hS' a x)) (m3 H hH E hE' S hS' a x (lvals ([]++[lf77])) 1 none) _
 have hp:=pre_room [] rfl lf77
 have hok:AllL []:=fun x hx=>by cases hx
 have z:=oZ H hH E hE' S hS' a x (lvals ([]++[lf77])) (rofT H E S []).1 (rofT H E S []).2 g
 rw[show([]:List Lf).length=0 from rfl] at hp
 rw[hp,lfDec_vals] at z
 refine Runs.bD aj mixed 5 z ⟨by omega,by omega,by omega,by omega,rfl,rfl,by omega,hok,rfl,by omega,by omega,rfl,rfl,by omega,hok,hx,rfl,by omega,by omega,rfl,rfl,by omega,hok,hx,rfl,hx,trivial⟩ (i8O H hH E hE' S hS' a x _) (by kernel_rfl) fun g=> ?_
 exact restO H hH E hE' S hS' a x hx g
end n
end ltke
end Go.Proofs.YtdccehmekkcheaaDoor

/- The law GrowKeeps: run. -/
import Derived.Test.YtdccehmekkcheaaDoorYGKf
namespace Go.Proofs.YtdccehmekkcheaaDoor
open Go Go.Eng Go.RowKit
set_option linter.unusedVariables false
set_option linter.unusedSimpArgs false
set_option maxRecDepth 100000
theorem flat_lf:FlatEq Tryd.prog 30 (List.replicate 64 .u8):=FlatEq.of Tryd.underlying30 (by kernel_rfl) (by kernel_rfl) (by kernel_rfl)
theorem putV_len {a:Nat} {ys vs:List Value} (h:a+ys.length≤vs.length):(putV a ys vs).length=vs.length:=by
 unfold putV
 rw[List.length_append,List.length_append,List.length_take,List.length_drop]
 omega
theorem lvR (l:List Lf) (z:Lf):lvals (l++[z])=lvals l++z.vals:=by rw[lvals_app,show lvals [z]=z.vals from List.append_nil _]
theorem ld_room (l:List Lf) (z:Lf):0+offI (offI 0 (l.length:Int) 64+32) 0 1<(lvals (l++[z])).length∧(lvals (l++[z])).getD (0+offI (offI 0 (l.length:Int) 64+32) 0 1) undef=z.vals.getD 32 undef:=by
 have o:=offs l.length 64
 have e:0+offI (offI 0 (l.length:Int) 64+32) 0 1=l.length*64+32:=by rw[offI_eq];simp;omega
 rw[e,aU,List.length_append,List.length_singleton]
 refine⟨by omega,?_⟩
 rw[getV_flat Lf.bR (l++[z]) zl 32 (by rw[List.length_append,List.length_singleton];omega) (by omega)]
 have:(l++[z]).getD l.length zl=z:=by simp[List.getD]
 rw[this]
theorem pre_room (l:List Lf) {n:Nat} (hn:l.length=n) (z:Lf):((lvals (l++[z])).drop (0+0)).take (n*64)=lvals l:=by
 rw[Nat.add_zero,List.drop_zero,lvR,List.take_append_of_le_length (by rw[aU,hn];exact Nat.le_refl _),List.take_of_length_le (by rw[aU,hn];exact Nat.le_refl _)]
theorem ld_again (l:List Lf) (z:Lf) {i:Nat} (hi:i<l.length):0+offI 0 (i:Int) 64+64≤(lvals (l++[z])).length∧SV.o (.g (aY (lvals (l++[z])) (0+offI 0 (i:Int) 64) 64))=cLf.enc (l.getD i zl):=by
 obtain⟨d1,d2⟩:=dst.ld_leaf (l++[z]) (show i<(l++[z]).length by rw[List.length_append];omega)
 have e:(l++[z]).getD i zl=l.getD i zl:=by rw[List.getD_eq_getElem?_getD,List.getElem?_append_left (by omega),←List.getD_eq_getElem?_getD]
 rw[e] at d2
 exact⟨d1,d2⟩
theorem nilL:AllL []:=fun x hx=>by cases hx
theorem st_ok {A B:List Lf} (hA:AllL A) (hB:AllL B) (h0:A≠[]) (hap:aM (tndV A)=true):aN (stT hV A B):=by
 have hP:=(ap_iff (tnd_ok hA)).1 hap
 have hne:tndV A≠[]:=by rw[←List.length_pos_iff,tnd_len,List.length_pos_iff];exact h0
 have W:=witV_spec hV hV_ok false hP hne (labs B)
 rw[←aroV_wit hV hV_ok false hP] at W
 exact(Wit.ap hV hV_ok hP W).ok
theorem st_nil (H:Nd→Nd→B32) (B:List Lf):stT H [] B=[]:=by unfold stT;rw[tnd_nil,aroV_nil]
namespace lgke
namespace ww
theorem ends (H:Nd→Nd→B32) (hH:H=hV) (E:B32) (hE':E=hE) (S:Nd→B32) (hS':S=hS) (A:List Lf) (n c:Nat) (ty:TypeId) (B:List Lf) (m d:Nat) (ty2:TypeId) (hn:A.length=n) (hc:n≤c) (hA:AllL A) (hm:B.length=m) (hd:m≤d) (hB:AllL B) (hb:n+m≤3000000) (g:Nat→SV):aC Tryd.prog GT 2 (csuf 2 S17) (fill g 0 (Mk n c m d)) (m4 A n ty B ty2 (lvals (A++[lf77])) (lvals (B++[lf78])) (m+1) none) (aF tys fn (aT (aK.enc true) .none)):=by
 rw[suf_17]
 refine Runs.seq (Runs.seq (Runs.aA aj mixed (ax A n c ty B m d ty2 (lvals (A++[lf77])) (lvals (B++[lf78])) g) trivial (ilx A n c ty B m d ty2 _ _ _) rfl fun g=> ?_))
 refine Runs.block ?_
 refine Runs.bn (fun(i:Nat)=>Mlx n c m d (i:Int)) (fun _=>m4 A n ty B ty2 (lvals (A++[lf77])) (lvals (B++[lf78])) (m+1) none) (fun i=>i≤n) (fun i=>n-i) ?_ 0 (Nat.zero_le _) g
 rintro i g hi
 rcases Nat.lt_or_ge i n with h | h
 ·obtain⟨c1,c2⟩:=dst.ld_leaf A (show i<A.length by omega)
  obtain⟨d1,d2⟩:=ld_again A lf77 (show i<A.length by omega)
  refine Runs.aA aj mixed (sex A n c ty B m d ty2 (lvals (A++[lf77])) (lvals (B++[lf78])) i ((i+1:Nat):Int) _ g) ⟨decide_eq_true (by omega),by omega,by omega,d1,d2,by omega,by omega,c1,c2,flat_lf,eqL_refl _,by rw[IntKind.wrap_i64];omega,trivial⟩ (ilx A n c ty B m d ty2 _ _ _) rfl fun g=> ?_
  exact⟨i+1,g,rfl,rfl,by omega,by omega⟩
 ·refine Runs.aA aj mixed (oex A n c ty B m d ty2 (lvals (A++[lf77])) (lvals (B++[lf78])) i g) ⟨decide_eq_false (by omega),trivial⟩ (ik A n c ty B m d ty2 _ _) rfl fun g=> ?_
  show aC _ _ _ _ _ _ _
  refine Runs.seq (Runs.seq (Runs.aA aj mixed (ay A n c ty B m d ty2 (lvals (A++[lf77])) (lvals (B++[lf78])) g) trivial (ily A n c ty B m d ty2 _ _ _) rfl fun g=> ?_))
  refine Runs.block ?_
  refine Runs.bn (fun(i:Nat)=>Mly n c m d (i:Int)) (fun _=>m4 A n ty B ty2 (lvals (A++[lf77])) (lvals (B++[lf78])) (m+1) none) (fun i=>i≤m) (fun i=>m-i) ?_ 0 (Nat.zero_le _) g
  rintro i g hi
  rcases Nat.lt_or_ge i m with h | h
  ·obtain⟨c1,c2⟩:=dst.ld_leaf B (show i<B.length by omega)
   obtain⟨d1,d2⟩:=ld_again B lf78 (show i<B.length by omega)
   refine Runs.aA aj mixed (sey A n c ty B m d ty2 (lvals (A++[lf77])) (lvals (B++[lf78])) i ((i+1:Nat):Int) _ g) ⟨decide_eq_true (by omega),by omega,by omega,d1,d2,by omega,by omega,c1,c2,flat_lf,eqL_refl _,by rw[IntKind.wrap_i64];omega,trivial⟩ (ily A n c ty B m d ty2 _ _ _) rfl fun g=> ?_
   exact⟨i+1,g,rfl,rfl,by omega,by omega⟩
  ·refine Runs.aA aj mixed (oey A n c ty B m d ty2 (lvals (A++[lf77])) (lvals (B++[lf78])) i g) ⟨decide_eq_false (by omega),trivial⟩ (ik A n c ty B m d ty2 _ _) rfl fun g=> ?_
   show aC _ _ _ _ _ _ _
   exact Runs.aH aj mixed [0,1] (dd A n c ty B m d ty2 (lvals (A++[lf77])) (lvals (B++[lf78])) g) trivial (by kernel_rfl) rfl fun g=>aF.ret (zr g _) rfl
theorem pre (H:Nd→Nd→B32) (hH:H=hV) (E:B32) (hE':E=hE) (S:Nd→B32) (hS':S=hS) (A:List Lf) (n c:Nat) (ty:TypeId) (B:List Lf) (m d:Nat) (ty2:TypeId) (hn:A.length=n) (hc:n≤c) (hA:AllL A) (hm:B.length=m) (hd:m≤d) (hB:AllL B) (hb:n+m≤3000000):(0≤(n:Int)∧(n:Int)≤(n+1:Nat))∧(0≤(m:Int)∧(m:Int)≤(m+1:Nat))∧0+0+n*64≤(lvals (A++[lf77])).length∧0+0+m*64≤(lvals (B++[lf78])).length∧((lvals (A++[lf77])).drop (0+0)).take (n*64)=lvals A∧((lvals (B++[lf78])).drop (0+0)).take (m*64)=lvals B∧
  (0+offI (offI 0 (n:Int) 64+32) 0 1<(lvals (A++[lf77])).length∧(lvals (A++[lf77])).getD (0+offI (offI 0 (n:Int) 64+32) 0 1) undef= .int .u8 77)∧(0+offI (offI 0 (m:Int) 64+32) 0 1<(lvals (B++[lf78])).length∧(lvals (B++[lf78])).getD (0+offI (offI 0 (m:Int) 64+32) 0 1) undef= .int .u8 78):=by
 have r1:=ld_room A lf77
 have r2:=ld_room B lf78
 have p1:=pre_room A hn lf77
 have p2:=pre_room B hm lf78
 have l1:(lvals (A++[lf77])).length=(n+1)*64:=by rw[aU,List.length_append,List.length_singleton];rw[hn]
 have l2:(lvals (B++[lf78])).length=(m+1)*64:=by rw[aU,List.length_append,List.length_singleton];rw[hm]
 rw[hn] at r1
 rw[hm] at r2
 exact⟨⟨by omega,by omega⟩,⟨by omega,by omega⟩,by omega,by omega,p1,p2,r1,r2⟩
def MA (n c:Nat) (m d:Nat):Nat→List (Option SV)
 | 0=>Mz n c m d
 | i+1=>Ma n c m d (i+1) ((i+1:Nat):Int)
def mA (H:Nd→Nd→B32) (hH:H=hV) (E:B32) (hE':E=hE) (S:Nd→B32) (hS':S=hS) (A:List Lf) (n c:Nat) (ty:TypeId) (B:List Lf) (m d:Nat) (ty2:TypeId) (us vs:List Value):Nat × List Value→List Blk
 | (0,_)=>m4 A n ty B ty2 us vs (m+1) none
 | (i+1,av)=>ma A n ty B m ty2 us vs av (i+1) none
section
variable (H:Nd→Nd→B32)
theorem restO (hH:H=hV) (E:B32) (hE':E=hE) (S:Nd→B32) (hS':S=hS) (A:List Lf) (n c:Nat) (ty:TypeId) (B:List Lf) (m d:Nat) (ty2:TypeId) (hn:A.length=n) (hc:n≤c) (hA:AllL A) (hm:B.length=m) (hd:m≤d) (hB:AllL B) (hb:n+m≤3000000) (g:Nat→SV):aC Tryd.prog GT 2 (csuf 3 S4) (fill g 0 (M8 n c m d)) (m4 A n ty B ty2 (lvals (A++[lf77])) (lvals (B++[lf78])) (m+1) none) (aF tys fn (aT (aK.enc true) .none)):=by
 obtain⟨⟨a1,a2⟩,⟨b1,b2⟩,w1,w2,d1,d2,⟨r1,r2⟩,⟨t1,t2⟩⟩:=pre H hH E hE' S hS' A n c ty B m d ty2 hn hc hA hm hd hB hb
 rw[suf_4]
 refine Runs.seq (Runs.seq (Runs.aA aj mixed (a8 A n c ty B m d ty2 _ _ g) trivial (i9 A n c ty B m d ty2 _ _) rfl fun g=> ?_))
 refine Runs.block ?_
 refine Runs.bn (fun(_:Unit)=>M9 n c m d) (fun _=>m4 A n ty B ty2 (lvals (A++[lf77])) (lvals (B++[lf78])) (m+1) none) (fun _=>True) (fun _=>0) ?_ () trivial g
 rintro _ g _
 refine Runs.aA aj mixed (o8 A n c ty B m d ty2 _ _ g) trivial (i8 A n c ty B m d ty2 _ _) rfl fun g=> ?_
 show aC _ _ _ _ _ _ _
 refine Runs.seq (Runs.seq (Runs.aA aj mixed (a13 A n c ty B m d ty2 _ _ g) trivial (iz A n c ty B m d ty2 _ _) rfl fun g=> ?_))
 refine Runs.block ?_
 refine Runs.bn (fun(s:Nat × List Value)=>MA n c m d s.1) (fun s=>mA H hH E hE' S hS' A n c ty B m d ty2 (lvals (A++[lf77])) (lvals (B++[lf78])) s) (fun s=>s.1≤20∧(0<s.1→s.2.length=s.1*65)) (fun s=>20-s.1) ?_ (0,[]) ⟨Nat.zero_le _,fun h=>absurd h (by omega)⟩ g
 rintro⟨i,av⟩ g ⟨hi,hav⟩
 have hi:i≤20:=hi
 cases i with
 | zero=>
  refine Runs.aH aj mixed [0,1,2,3,5] (zy A n c ty B m d ty2 _ _ g) ⟨rfl,by decide,by omega,roomN 1 (by omega),trivial⟩ (ia A n c ty B m d ty2 _ _ _ _ _ _ _) rfl fun g=> ?_
  exact⟨(1,(⟨-7,zB,zB⟩:Nd).vals),g,rfl,rfl,⟨by omega,fun _=>rfl⟩,by omega⟩
 | succ i=>
  have hav:av.length=(i+1)*65:=hav (by omega)
  show aC _ _ _ _ (fill g 0 (Ma n c m d (i+1) ((i+1:Nat):Int))) (ma A n ty B m ty2 _ _ av (i+1) none) _
  rcases Nat.lt_or_ge (i+1) 20 with h | h
  ·have hw:IntKind.i64.wrap (((i+1:Nat):Int)+1)=((i+1+1:Nat):Int):=by rw[IntKind.wrap_i64];omega
   have hl:(av++(⟨-7,zB,zB⟩:Nd).vals).length=(i+1+1)*65:=by rw[List.length_append,hav,Nd.bR];omega
   refine Runs.roomV 4 (i+1+1) (own:=true) (ty:=33) (s:=65) (vs:=av) (lo:=i+1) rfl ?_ ?_
   ·refine Runs.aA aj mixed (sg A n c ty B m d ty2 _ _ av (i+1) _ ((i+1+1:Nat):Int) g) ⟨decide_eq_true (by omega),rfl,by decide,by omega,Nat.le_refl _,oneV _,hw,trivial⟩ (ia A n c ty B m d ty2 _ _ _ _ _ _ _) rfl fun g=> ?_
    exact⟨(i+1+1,_),g,rfl,rfl,⟨by omega,fun _=>hl⟩,by omega⟩
   ·refine Runs.aH aj mixed [0,1,2,3,6] (sr A n c ty B m d ty2 _ _ av (i+1) (i+1) _ ((i+1+1:Nat):Int) g) ⟨decide_eq_true (by omega),rfl,by decide,by omega,Nat.le_refl _,roomN _ (by omega),hw,trivial⟩ (ia A n c ty B m d ty2 _ _ _ _ _ _ _) rfl fun g=> ?_
    exact⟨(i+1+1,_),g,rfl,rfl,⟨by omega,fun _=>hl⟩,by omega⟩
  ·refine Runs.aH aj mixed [0,1,2,3] (os A n c ty B m d ty2 _ _ av _ _ _ _ g) ⟨decide_eq_false (by omega),trivial⟩ (ib A n c ty B m d ty2 _ _) rfl fun g=> ?_
   show aC _ _ _ _ _ _ _
   have z:=vO H hH E hE' S hS' A n c ty B m d ty2 (lvals (A++[lf77])) (lvals (B++[lf78])) (chkT H E S zB zB [] B) g
   rw[d2,aP] at z
   refine Runs.aW aj mixed 1 z ⟨b1,b2,w2,by omega,rfl,hm,hB,by omega,rfl,trivial⟩ (ib A n c ty B m d ty2 _ _) (by kernel_rfl) fun g=> ?_
   refine Runs.aW aj mixed 1 (kO A n c ty B m d ty2 (lvals (A++[lf77])) (lvals (B++[lf78])) g) ⟨a1,by omega,by omega,by omega,r1,congrArg (fun v=>SV.o (.a (.v v))) r2,b1,by omega,by omega,by omega,t1,congrArg (fun v=>SV.o (.a (.v v))) t2,trivial⟩ (ik A n c ty B m d ty2 _ _) (by kernel_rfl) fun g=> ?_
   exact ends H hH E hE' S hS' A n c ty B m d ty2 hn hc hA hm hd hB hb g
theorem restP (hH:H=hV) (E:B32) (hE':E=hE) (S:Nd→B32) (hS':S=hS) (A:List Lf) (n c:Nat) (ty:TypeId) (B:List Lf) (m d:Nat) (ty2:TypeId) (hn:A.length=n) (hc:n≤c) (hA:AllL A) (hm:B.length=m) (hd:m≤d) (hB:AllL B) (hb:n+m≤3000000) (T:List Nd) (hT:T≠[]) (hk:aN T) (hTn:T.length≤n) (g:Nat→SV):aC Tryd.prog GT 2 (csuf 3 S4) (fill g 0 (M8P n c m d T.length T.length)) (m8P A n ty B m ty2 (lvals (A++[lf77])) (lvals (B++[lf78])) (ah T) (ah T) (ah T) T.length T.length) (aF tys fn (aT (aK.enc true) .none)):=by
 obtain⟨⟨a1,a2⟩,⟨b1,b2⟩,w1,w2,d1,d2,⟨r1,r2⟩,⟨t1,t2⟩⟩:=pre H hH E hE' S hS' A n c ty B m d ty2 hn hc hA hm hd hB hb
 have dT:((ah T).drop (0+0)).take (T.length*65)=ah T:=dtn rfl
 have lT:=aV T
 have hp:=List.length_pos_iff.2 hT
 rw[suf_4]
 refine Runs.seq (Runs.seq (Runs.aA aj mixed (a8P A n c ty B m d ty2 _ _ _ _ _ _ g) trivial (i9P A n c ty B m d ty2 _ _ _ _ _ _ _) rfl fun g=> ?_))
 refine Runs.block ?_
 refine Runs.bn (fun(s:Nat × List Value)=>M9P n c m d T.length ((s.1:Nat):Int)) (fun s=>m8P A n ty B m ty2 (lvals (A++[lf77])) (lvals (B++[lf78])) s.2 (ah T) (ah T) T.length T.length) (fun s=>s.1≤T.length∧s.2.length=T.length*65) (fun s=>T.length-s.1) ?_ (0,ah T) ⟨Nat.zero_le _,lT⟩ g
 rintro⟨i,ta⟩ g ⟨hi,hta⟩
 have hi:i≤T.length:=hi
 have hta:ta.length=T.length*65:=hta
 show aC _ _ _ _ (fill g 0 (M9P n c m d T.length (i:Int))) (m8P A n ty B m ty2 _ _ ta _ _ _ _) _
 rcases Nat.lt_or_ge i T.length with h | h
 ·have o65:=offs i 65
  have hb5:i*65+65≤T.length*65:=by have:=Nat.mul_le_mul_right 65 (show i+1≤T.length by omega);omega
  refine Runs.aA aj mixed (s8P A n c ty B m d ty2 _ _ ta _ _ _ i ((i+1:Nat):Int) g) ⟨decide_eq_true (by omega),by omega,by omega,by omega,by rw[IntKind.wrap_i64];omega,trivial⟩ (i9P A n c ty B m d ty2 _ _ _ _ _ _ _) rfl fun g=> ?_
  exact⟨(i+1,_),g,rfl,rfl,⟨by show i+1≤_;omega,by show(putV (0+offI 0 (i:Int) 65) [Value.int .i64 (-7)] ta).length=_;rw[putV_len (by rw[o65];show i*65+1≤_;omega)];exact hta⟩,by show T.length-(i+1)<T.length-i;omega⟩
 ·obtain rfl:i=T.length:=by omega
  refine Runs.aA aj mixed (o8P A n c ty B m d ty2 _ _ ta _ _ _ _ g) ⟨decide_eq_false (by omega),trivial⟩ (i8P A n c ty B m d ty2 _ _ _ _ _ _ _) rfl fun g=> ?_
  show aC _ _ _ _ _ _ _
  refine Runs.seq (Runs.seq (Runs.aA aj mixed (a13P A n c ty B m d ty2 _ _ _ _ _ _ g) trivial (iaP A n c ty B m d ty2 _ _ _ _ _ _ _ _ _ _) rfl fun g=> ?_))
  refine Runs.block ?_
  refine Runs.bn (fun(s:Nat × List Value)=>MaP n c m d T.length (T.length+s.1) ((s.1:Nat):Int)) (fun s=>maP A n ty B m ty2 (lvals (A++[lf77])) (lvals (B++[lf78])) s.2 (T.length+s.1) none (ah T) (ah T) T.length) (fun s=>s.1≤20∧s.2.length=(T.length+s.1)*65) (fun s=>20-s.1) ?_ (0,ta) ⟨Nat.zero_le _,hta⟩ g
  rintro⟨i,av⟩ g ⟨hi,hav⟩
  have hi:i≤20:=hi
  have hav:av.length=(T.length+i)*65:=hav
  show aC _ _ _ _ (fill g 0 (MaP n c m d T.length (T.length+i) (i:Int))) (maP A n ty B m ty2 _ _ av (T.length+i) none _ _ _) _
  rcases Nat.lt_or_ge i 20 with h | h
  ·have hw:IntKind.i64.wrap ((i:Int)+1)=((i+1:Nat):Int):=by rw[IntKind.wrap_i64];omega
   have hl:(av++(⟨-7,zB,zB⟩:Nd).vals).length=(T.length+(i+1))*65:=by rw[List.length_append,hav,Nd.bR];omega
   refine Runs.roomV 4 (T.length+i+1) (own:=true) (ty:=33) (s:=65) (vs:=av) (lo:=T.length+i) rfl ?_ ?_
   ·refine Runs.aA aj mixed (sgP A n c ty B m d ty2 _ _ av _ _ _ (T.length+i) _ ((i+1:Nat):Int) g) ⟨decide_eq_true (by omega),rfl,by decide,by omega,Nat.le_refl _,oneV _,hw,trivial⟩ (iaP A n c ty B m d ty2 _ _ _ _ _ _ _ _ _ _) rfl fun g=> ?_
    exact⟨(i+1,_),g,rfl,rfl,⟨by show i+1≤20;omega,hl⟩,by show 20-(i+1)<20-i;omega⟩
   ·refine Runs.aH aj mixed [0,1,2,3,8,5,6] (srP A n c ty B m d ty2 _ _ av _ _ _ (T.length+i) (T.length+i) _ ((i+1:Nat):Int) g) ⟨decide_eq_true (by omega),rfl,by decide,by omega,Nat.le_refl _,roomN _ (by omega),hw,trivial⟩ (iaP A n c ty B m d ty2 _ _ _ _ _ _ _ _ _ _) rfl fun g=> ?_
    exact⟨(i+1,_),g,rfl,rfl,⟨by show i+1≤20;omega,hl⟩,by show 20-(i+1)<20-i;omega⟩
  ·refine Runs.aH aj mixed [0,1,2,3,5,6] (osP A n c ty B m d ty2 _ _ av _ _ _ _ _ _ _ g) ⟨decide_eq_false (by omega),trivial⟩ (ibP A n c ty B m d ty2 _ _ _ _ _) rfl fun g=> ?_
   show aC _ _ _ _ _ _ _
   have z:=vP H hH E hE' S hS' A n c ty B m d ty2 (lvals (A++[lf77])) (lvals (B++[lf78])) (ah T) (ah T) T.length (chkT H E S zB zB T B) g
   rw[dT,d2,aO,aP] at z
   refine Runs.aW aj mixed 1 z ⟨b1,b2,by omega,Nat.le_refl _,w2,by omega,rfl,rfl,hk,rfl,hm,hB,by omega,rfl,trivial⟩ (ibP A n c ty B m d ty2 _ _ _ _ _) (by kernel_rfl) fun g=> ?_
   have z:=kP A n c ty B m d ty2 (lvals (A++[lf77])) (lvals (B++[lf78])) (ah T) (ah T) T.length g
   rw[dT,aO] at z
   refine Runs.of_outNP aj mixed 1 [0,1,2,3] z ⟨a1,by omega,by omega,by omega,r1,congrArg (fun v=>SV.o (.a (.v v))) r2,b1,by omega,by omega,by omega,t1,congrArg (fun v=>SV.o (.a (.v v))) t2,by omega,Nat.le_refl _,by omega,Nat.le_refl _,rfl,rfl,rfl,rfl,by omega,trivial⟩ (ik A n c ty B m d ty2 _ _) (by kernel_rfl) fun g=> ?_
   exact ends H hH E hE' S hS' A n c ty B m d ty2 hn hc hA hm hd hB hb g
theorem mid (hH:H=hV) (E:B32) (hE':E=hE) (S:Nd→B32) (hS':S=hS) (A:List Lf) (n c:Nat) (ty:TypeId) (B:List Lf) (m d:Nat) (ty2:TypeId) (hn:A.length=n) (hc:n≤c) (hA:AllL A) (hm:B.length=m) (hd:m≤d) (hB:AllL B) (hb:n+m≤3000000) (g:Nat→SV):aC Tryd.prog GT 2 S4 (fill g 0 (M4 n c m d)) (m4 A n ty B ty2 (lvals (A++[lf77])) (lvals (B++[lf78])) (m+1) none) (aF tys fn (aT (aK.enc true) .none)):=by
 obtain⟨⟨a1,a2⟩,⟨b1,b2⟩,w1,w2,d1,d2,⟨r1,r2⟩,⟨t1,t2⟩⟩:=pre H hH E hE' S hS' A n c ty B m d ty2 hn hc hA hm hd hB hb
 have hX:=AllL.app (A:=A) (B:=B) hA hB
 have hap:=ap_dup hX
 have dY:((lvals A).drop (0+0)).take (n*64)=lvals A:=dtl hn
 have dW:((lvals B).drop (0+0)).take (m*64)=lvals B:=dtl hm
 cases hq:rndD (A++B) (A++B).length with
 | true=>
  rw[hq] at hap
  have z:=oE H hH E hE' S hS' A n c ty B m d ty2 (lvals (A++[lf77])) (lvals (B++[lf78])) g
  rw[d1,d2,dY,dW,aP,aP] at z
  refine Runs.aW aj mixed 3 z ⟨a1,a2,b1,b2,w1,by omega,w2,by omega,rfl,hn,rfl,hm,by omega,hA,hB,hap,a1,a2,b1,b2,w1,by omega,w2,by omega,rfl,hn,rfl,hm,by omega,hA,hB,hap,by rw[aU,hn];omega,hc,by rw[aU,hm];omega,hd,rfl,hn,hA,rfl,hm,hB,by omega,hq,trivial⟩ (i8 A n c ty B m d ty2 _ _) (by kernel_rfl) fun g=> ?_
  exact restO H hH E hE' S hS' A n c ty B m d ty2 hn hc hA hm hd hB hb g
 | false=>
  rw[hq] at hap
  rcases Nat.eq_zero_or_pos n with h0 | h0
  ·have hA0:A=[]:=List.eq_nil_of_length_eq_zero (by omega)
   have hz:stT H A B=[]:=by rw[hA0];exact st_nil H _
   have z:=oZ H hH E hE' S hS' A n c ty B m d ty2 (lvals (A++[lf77])) (lvals (B++[lf78])) g
   rw[d1,d2,dY,dW,aP,aP] at z
   refine Runs.aW aj mixed 3 z ⟨a1,a2,b1,b2,w1,by omega,w2,by omega,rfl,hn,rfl,hm,by omega,hA,hB,hap,hz,a1,a2,b1,b2,w1,by omega,w2,by omega,rfl,hn,rfl,hm,by omega,hA,hB,hap,hz,by rw[aU,hn];omega,hc,by rw[aU,hm];omega,hd,rfl,hn,hA,rfl,hm,hB,by omega,hq,h0,trivial⟩ (i8 A n c ty B m d ty2 _ _) (by kernel_rfl) fun g=> ?_
   exact restO H hH E hE' S hS' A n c ty B m d ty2 hn hc hA hm hd hB hb g
  ·have hne:A≠[]:=by rw[←List.length_pos_iff];omega
   have e:stT H A B=stR H A B:=by rw[hH];exact st_eq hA hB hq
   have hT:stR H A B≠[]:=st_ne (fun a b=>by rw[hH];exact hV_ok a b) hA hB (by omega) hq
   have le:(stR H A B).length≤A.length:=by rw[hH];exact st_len hA hB hq
   have hk:aN (stR H A B):=by rw[←e,hH];exact st_ok hA hB hne (ap_left hA hB hap).2
   have z:=oP H hH E hE' S hS' A n c ty B m d ty2 (lvals (A++[lf77])) (lvals (B++[lf78])) g
   rw[d1,d2,dY,dW,aP,aP,e] at z
   refine Runs.of_outNP aj mixed 3 [0,1,2,3,4,5,6] z ⟨a1,a2,b1,b2,w1,by omega,w2,by omega,rfl,hn,rfl,hm,by omega,hA,hB,hap,hT,a1,a2,b1,b2,w1,by omega,w2,by omega,rfl,hn,rfl,hm,by omega,hA,hB,hap,hT,by rw[aU,hn];omega,hc,by rw[aU,hm];omega,hd,rfl,hn,hA,rfl,hm,hB,by omega,hq,h0,trivial⟩ (i8P A n c ty B m d ty2 _ _ _ _ _ _ _) (by kernel_rfl) fun g=> ?_
   exact restP H hH E hE' S hS' A n c ty B m d ty2 hn hc hA hm hd hB hb _ hT hk (by omega) g
theorem two (hH:H=hV) (E:B32) (hE':E=hE) (S:Nd→B32) (hS':S=hS) (A:List Lf) (n c:Nat) (ty:TypeId) (B:List Lf) (m d:Nat) (ty2:TypeId) (hn:A.length=n) (hc:n≤c) (hA:AllL A) (hm:B.length=m) (hd:m≤d) (hB:AllL B) (hb:n+m≤3000000) (g:Nat→SV):aC Tryd.prog GT 2 S3 (fill g 0 (M3 n c m d)) (m3 A ty B ty2 (lvals (A++[lf77])) (n+1) none) (aF tys fn (aT (aK.enc true) .none)):=by
 have dW:((lvals B).drop (0+0)).take (m*64)=lvals B:=dtl hm
 have lb:(lvals B).length=m*64:=by rw[←hm];exact aU B
 rcases Nat.eq_zero_or_pos m with h1 | h1
 ·subst h1
  obtain rfl:=List.eq_nil_of_length_eq_zero hm
  rw[suf_3b]
  refine Runs.seq (Runs.aH aj mixed [0,1,2,5] (bcz A n c ty [] 0 d ty2 (lvals (A++[lf77])) g) ⟨Nat.zero_le _,hd,rfl,rfl,rfl,by decide,by omega,roomLf 1 (by omega),trivial⟩ (i4z A n c ty [] 0 d ty2 _ _ _ _) rfl fun g=> ?_)
  have ev:lf78.vals=lvals ([]++[lf78]):=(List.append_nil _).symm
  rw[ev]
  exact mid H hH E hE' S hS' A n c ty [] 0 d ty2 hn hc hA hm hd hB hb g
 ·rw[suf_3]
  refine Runs.seq (Runs.region ?_)
  refine aJ.aH aj 2 [0,1,2,3] (bc1 A n c ty B m d ty2 _ g) ⟨by omega,hd,rfl,h1,roomLf m (by omega),trivial⟩ (iCb A n c ty B m d ty2 _ _ _ _) rfl fun g'=> ?_
  rw[dW]
  have ev:lvals B++lf78.vals=lvals (B++[lf78]):=(lvR B lf78).symm
  refine aJ.roomV 3 (m+1) (own:=true) (ty:=30) (s:=64) (vs:=lvals B) (lo:=m) rfl ?_ ?_
  ·refine aJ.aA aj 5 (bcg A n c ty B m d ty2 _ (lvals B) g') ⟨rfl,by decide,by omega,Nat.le_refl _,dst.oneLv _,trivial⟩ (i4 A n c ty B m d ty2 _ _ _ _) rfl fun g=> ?_
   rw[nil4,ev]
   exact aJ.nil (mid H hH E hE' S hS' A n c ty B m d ty2 hn hc hA hm hd hB hb g)
  ·refine aJ.aH aj 5 [0,1,2,5] (bcr A n c ty B m d ty2 _ (lvals B) m g') ⟨rfl,by decide,by omega,Nat.le_refl _,roomLf _ (by omega),trivial⟩ (i4 A n c ty B m d ty2 _ _ _ _) rfl fun g=> ?_
   rw[nil4,ev]
   exact aJ.nil (mid H hH E hE' S hS' A n c ty B m d ty2 hn hc hA hm hd hB hb g)
theorem run (hH:H=hV) (E:B32) (hE':E=hE) (S:Nd→B32) (hS':S=hS) (A:List Lf) (n c:Nat) (ty:TypeId) (B:List Lf) (m d:Nat) (ty2:TypeId) (hn:A.length=n) (hc:n≤c) (hA:AllL A) (hm:B.length=m) (hd:m≤d) (hB:AllL B) (hb:n+m≤3000000):aC Tryd.prog GT 2 body (aI fn [.o (.a (.sld 0 0 0 n c)),.o (.a (.sld 1 0 0 m d))]) [⟨false,ty,.prv (lvals A)⟩,⟨false,ty2,.prv (lvals B)⟩] (aF tys fn (aT (aK.enc true) .none)):=by
 refine Runs.aW aj mixed 2 (st A n c ty B m d ty2) trivial (i2 A n c ty B m d ty2) (by kernel_rfl) fun g=> ?_
 have dY:((lvals A).drop (0+0)).take (n*64)=lvals A:=dtl hn
 have la:(lvals A).length=n*64:=by rw[←hn];exact aU A
 rcases Nat.eq_zero_or_pos n with h0 | h0
 ·subst h0
  obtain rfl:=List.eq_nil_of_length_eq_zero hn
  rw[suf_2b]
  refine Runs.seq (Runs.aH aj mixed [0,1,4] (acz [] 0 c ty B m d ty2 g) ⟨Nat.zero_le _,hc,rfl,rfl,rfl,by decide,by omega,roomLf 1 (by omega),trivial⟩ (i3z [] 0 c ty B m d ty2 _ _ _) rfl fun g=> ?_)
  have ev:lf77.vals=lvals ([]++[lf77]):=(List.append_nil _).symm
  rw[ev]
  exact two H hH E hE' S hS' [] 0 c ty B m d ty2 hn hc hA hm hd hB hb g
 ·rw[suf_2]
  refine Runs.seq (Runs.region ?_)
  refine aJ.aH aj 2 [0,1,2] (ac1 A n c ty B m d ty2 g) ⟨by omega,hc,rfl,h0,roomLf n (by omega),trivial⟩ (iCa A n c ty B m d ty2 _ _ _) rfl fun g'=> ?_
  rw[dY]
  have ev:lvals A++lf77.vals=lvals (A++[lf77]):=(lvR A lf77).symm
  refine aJ.roomV 2 (n+1) (own:=true) (ty:=30) (s:=64) (vs:=lvals A) (lo:=n) rfl ?_ ?_
  ·refine aJ.aA aj 5 (acg A n c ty B m d ty2 (lvals A) g') ⟨rfl,by decide,by omega,Nat.le_refl _,dst.oneLv _,trivial⟩ (i3 A n c ty B m d ty2 _ _ _) rfl fun g=> ?_
   rw[nil3,ev]
   exact aJ.nil (two H hH E hE' S hS' A n c ty B m d ty2 hn hc hA hm hd hB hb g)
  ·refine aJ.aH aj 5 [0,1,4] (acr A n c ty B m d ty2 (lvals A) n g') ⟨rfl,by decide,by omega,Nat.le_refl _,roomLf _ (by omega),trivial⟩ (i3 A n c ty B m d ty2 _ _ _) rfl fun g=> ?_
   rw[nil3,ev]
   exact aJ.nil (two H hH E hE' S hS' A n c ty B m d ty2 hn hc hA hm hd hB hb g)
end
end ww
namespace wn
theorem ends (H:Nd→Nd→B32) (hH:H=hV) (E:B32) (hE':E=hE) (S:Nd→B32) (hS':S=hS) (A:List Lf) (n c:Nat) (ty:TypeId) (b:Option Addr) (hn:A.length=n) (hc:n≤c) (hA:AllL A) (hb:n≤3000000) (g:Nat→SV):aC Tryd.prog GT 1 (csuf 2 S17) (fill g 0 (Mk n c b)) (m4 A n ty (lvals (A++[lf77])) (lvals (([]:List Lf)++[lf78])) 1 none) (aF tys fn (aT (aK.enc true) .none)):=by
 rw[suf_17]
 refine Runs.seq (Runs.seq (Runs.aA aj mixed (ax A n c ty b (lvals (A++[lf77])) (lvals (([]:List Lf)++[lf78])) g) trivial (ilx A n c ty b _ _ _) rfl fun g=> ?_))
 refine Runs.block ?_
 refine Runs.bn (fun(i:Nat)=>Mlx n c b (i:Int)) (fun _=>m4 A n ty (lvals (A++[lf77])) (lvals (([]:List Lf)++[lf78])) 1 none) (fun i=>i≤n) (fun i=>n-i) ?_ 0 (Nat.zero_le _) g
 rintro i g hi
 rcases Nat.lt_or_ge i n with h | h
 ·obtain⟨c1,c2⟩:=dst.ld_leaf A (show i<A.length by omega)
  obtain⟨d1,d2⟩:=ld_again A lf77 (show i<A.length by omega)
  refine Runs.aA aj mixed (sex A n c ty b (lvals (A++[lf77])) (lvals (([]:List Lf)++[lf78])) i ((i+1:Nat):Int) _ g) ⟨decide_eq_true (by omega),by omega,by omega,d1,d2,by omega,by omega,c1,c2,flat_lf,eqL_refl _,by rw[IntKind.wrap_i64];omega,trivial⟩ (ilx A n c ty b _ _ _) rfl fun g=> ?_
  exact⟨i+1,g,rfl,rfl,by omega,by omega⟩
 ·refine Runs.aA aj mixed (oex A n c ty b (lvals (A++[lf77])) (lvals (([]:List Lf)++[lf78])) i g) ⟨decide_eq_false (by omega),trivial⟩ (ik A n c ty b _ _) rfl fun g=> ?_
  show aC _ _ _ _ _ _ _
  refine Runs.seq (Runs.seq (Runs.aA aj mixed (ay A n c ty b (lvals (A++[lf77])) (lvals (([]:List Lf)++[lf78])) g) trivial (ily A n c ty b _ _) rfl fun g=> ?_))
  refine Runs.block ?_
  refine Runs.bn (fun(_:Unit)=>Mly n c b) (fun _=>m4 A n ty (lvals (A++[lf77])) (lvals (([]:List Lf)++[lf78])) 1 none) (fun _=>True) (fun _=>0) ?_ () trivial g
  rintro _ g _
  refine Runs.aA aj mixed (oey A n c ty b (lvals (A++[lf77])) (lvals (([]:List Lf)++[lf78])) g) trivial (ik A n c ty b _ _) rfl fun g=> ?_
  show aC _ _ _ _ _ _ _
  exact Runs.aH aj mixed [0] (dd A n c ty b (lvals (A++[lf77])) (lvals (([]:List Lf)++[lf78])) g) trivial (by kernel_rfl) rfl fun g=>aF.ret (zr g _) rfl
theorem pre (H:Nd→Nd→B32) (hH:H=hV) (E:B32) (hE':E=hE) (S:Nd→B32) (hS':S=hS) (A:List Lf) (n c:Nat) (ty:TypeId) (b:Option Addr) (hn:A.length=n) (hc:n≤c) (hA:AllL A) (hb:n≤3000000):(0≤(n:Int)∧(n:Int)≤(n+1:Nat))∧(0≤(0:Int)∧(0:Int)≤(1:Nat))∧0+0+n*64≤(lvals (A++[lf77])).length∧0+0+0*64≤(lvals (([]:List Lf)++[lf78])).length∧((lvals (A++[lf77])).drop (0+0)).take (n*64)=lvals A∧((lvals (([]:List Lf)++[lf78])).drop (0+0)).take (0*64)=lvals ([]:List Lf)∧
  (0+offI (offI 0 (n:Int) 64+32) 0 1<(lvals (A++[lf77])).length∧(lvals (A++[lf77])).getD (0+offI (offI 0 (n:Int) 64+32) 0 1) undef= .int .u8 77)∧(0+offI (offI 0 (0:Int) 64+32) 0 1<(lvals (([]:List Lf)++[lf78])).length∧(lvals (([]:List Lf)++[lf78])).getD (0+offI (offI 0 (0:Int) 64+32) 0 1) undef= .int .u8 78):=by
 have r1:=ld_room A lf77
 have r2:=ld_room ([]:List Lf) lf78
 have p1:=pre_room A hn lf77
 have p2:=pre_room ([]:List Lf) rfl lf78
 have l1:(lvals (A++[lf77])).length=(n+1)*64:=by rw[aU,List.length_append,List.length_singleton];rw[hn]
 have l2:(lvals (([]:List Lf)++[lf78])).length=1*64:=by rw[aU,List.length_append,List.length_singleton];rfl
 rw[hn] at r1
 rw[show(([]:List Lf).length:Int)=0 from rfl] at r2
 exact⟨⟨by omega,by omega⟩,⟨by omega,by omega⟩,by omega,by omega,p1,p2,r1,r2⟩
def MA (n c:Nat) (b:Option Addr):Nat→List (Option SV)
 | 0=>Mz n c b
 | i+1=>Ma n c b (i+1) ((i+1:Nat):Int)
def mA (H:Nd→Nd→B32) (hH:H=hV) (E:B32) (hE':E=hE) (S:Nd→B32) (hS':S=hS) (A:List Lf) (n c:Nat) (ty:TypeId) (b:Option Addr) (us vs:List Value):Nat × List Value→List Blk
 | (0,_)=>m4 A n ty us vs 1 none
 | (i+1,av)=>ma A n ty us vs av (i+1) none
section
variable (H:Nd→Nd→B32)
theorem restO (hH:H=hV) (E:B32) (hE':E=hE) (S:Nd→B32) (hS':S=hS) (A:List Lf) (n c:Nat) (ty:TypeId) (b:Option Addr) (hn:A.length=n) (hc:n≤c) (hA:AllL A) (hb:n≤3000000) (g:Nat→SV):aC Tryd.prog GT 1 (csuf 3 S4) (fill g 0 (M8 n c b)) (m4 A n ty (lvals (A++[lf77])) (lvals (([]:List Lf)++[lf78])) 1 none) (aF tys fn (aT (aK.enc true) .none)):=by
 obtain⟨⟨a1,a2⟩,⟨b1,b2⟩,w1,w2,d1,d2,⟨r1,r2⟩,⟨t1,t2⟩⟩:=pre H hH E hE' S hS' A n c ty b hn hc hA hb
 rw[suf_4]
 refine Runs.seq (Runs.seq (Runs.aA aj mixed (a8 A n c ty b _ _ g) trivial (i9 A n c ty b _ _) rfl fun g=> ?_))
 refine Runs.block ?_
 refine Runs.bn (fun(_:Unit)=>M9 n c b) (fun _=>m4 A n ty (lvals (A++[lf77])) (lvals (([]:List Lf)++[lf78])) 1 none) (fun _=>True) (fun _=>0) ?_ () trivial g
 rintro _ g _
 refine Runs.aA aj mixed (o8 A n c ty b _ _ g) trivial (i8 A n c ty b _ _) rfl fun g=> ?_
 show aC _ _ _ _ _ _ _
 refine Runs.seq (Runs.seq (Runs.aA aj mixed (a13 A n c ty b _ _ g) trivial (iz A n c ty b _ _) rfl fun g=> ?_))
 refine Runs.block ?_
 refine Runs.bn (fun(s:Nat × List Value)=>MA n c b s.1) (fun s=>mA H hH E hE' S hS' A n c ty b (lvals (A++[lf77])) (lvals (([]:List Lf)++[lf78])) s) (fun s=>s.1≤20∧(0<s.1→s.2.length=s.1*65)) (fun s=>20-s.1) ?_ (0,[]) ⟨Nat.zero_le _,fun h=>absurd h (by omega)⟩ g
 rintro⟨i,av⟩ g ⟨hi,hav⟩
 have hi:i≤20:=hi
 cases i with
 | zero=>
  refine Runs.aH aj mixed [0,1,2,4] (zy A n c ty b _ _ g) ⟨rfl,by decide,by omega,roomN 1 (by omega),trivial⟩ (ia A n c ty b _ _ _ _ _ _ _) rfl fun g=> ?_
  exact⟨(1,(⟨-7,zB,zB⟩:Nd).vals),g,rfl,rfl,⟨by omega,fun _=>rfl⟩,by omega⟩
 | succ i=>
  have hav:av.length=(i+1)*65:=hav (by omega)
  show aC _ _ _ _ (fill g 0 (Ma n c b (i+1) ((i+1:Nat):Int))) (ma A n ty _ _ av (i+1) none) _
  rcases Nat.lt_or_ge (i+1) 20 with h | h
  ·have hw:IntKind.i64.wrap (((i+1:Nat):Int)+1)=((i+1+1:Nat):Int):=by rw[IntKind.wrap_i64];omega
   have hl:(av++(⟨-7,zB,zB⟩:Nd).vals).length=(i+1+1)*65:=by rw[List.length_append,hav,Nd.bR];omega
   refine Runs.roomV 3 (i+1+1) (own:=true) (ty:=33) (s:=65) (vs:=av) (lo:=i+1) rfl ?_ ?_
   ·refine Runs.aA aj mixed (sg A n c ty b _ _ av (i+1) _ ((i+1+1:Nat):Int) g) ⟨decide_eq_true (by omega),rfl,by decide,by omega,Nat.le_refl _,oneV _,hw,trivial⟩ (ia A n c ty b _ _ _ _ _ _ _) rfl fun g=> ?_
    exact⟨(i+1+1,_),g,rfl,rfl,⟨by omega,fun _=>hl⟩,by omega⟩
   ·refine Runs.aH aj mixed [0,1,2,5] (sr A n c ty b _ _ av (i+1) (i+1) _ ((i+1+1:Nat):Int) g) ⟨decide_eq_true (by omega),rfl,by decide,by omega,Nat.le_refl _,roomN _ (by omega),hw,trivial⟩ (ia A n c ty b _ _ _ _ _ _ _) rfl fun g=> ?_
    exact⟨(i+1+1,_),g,rfl,rfl,⟨by omega,fun _=>hl⟩,by omega⟩
  ·refine Runs.aH aj mixed [0,1,2] (os A n c ty b _ _ av _ _ _ _ g) ⟨decide_eq_false (by omega),trivial⟩ (ib A n c ty b _ _) rfl fun g=> ?_
   show aC _ _ _ _ _ _ _
   have z:=vO H hH E hE' S hS' A n c ty b (lvals (A++[lf77])) (lvals (([]:List Lf)++[lf78])) (chkT H E S zB zB [] ([]:List Lf)) g
   rw[d2,aP] at z
   refine Runs.aW aj mixed 1 z ⟨b1,b2,w2,by omega,rfl,rfl,nilL,by omega,rfl,trivial⟩ (ib A n c ty b _ _) (by kernel_rfl) fun g=> ?_
   refine Runs.aW aj mixed 1 (kO A n c ty b (lvals (A++[lf77])) (lvals (([]:List Lf)++[lf78])) g) ⟨a1,by omega,by omega,by omega,r1,congrArg (fun v=>SV.o (.a (.v v))) r2,b1,by omega,by omega,by omega,t1,congrArg (fun v=>SV.o (.a (.v v))) t2,trivial⟩ (ik A n c ty b _ _) (by kernel_rfl) fun g=> ?_
   exact ends H hH E hE' S hS' A n c ty b hn hc hA hb g
theorem restP (hH:H=hV) (E:B32) (hE':E=hE) (S:Nd→B32) (hS':S=hS) (A:List Lf) (n c:Nat) (ty:TypeId) (b:Option Addr) (hn:A.length=n) (hc:n≤c) (hA:AllL A) (hb:n≤3000000) (T:List Nd) (hT:T≠[]) (hk:aN T) (hTn:T.length≤n) (g:Nat→SV):aC Tryd.prog GT 1 (csuf 3 S4) (fill g 0 (M8P n c b T.length T.length)) (m8P A n ty (lvals (A++[lf77])) (lvals (([]:List Lf)++[lf78])) (ah T) (ah T) (ah T) T.length T.length) (aF tys fn (aT (aK.enc true) .none)):=by
 obtain⟨⟨a1,a2⟩,⟨b1,b2⟩,w1,w2,d1,d2,⟨r1,r2⟩,⟨t1,t2⟩⟩:=pre H hH E hE' S hS' A n c ty b hn hc hA hb
 have dT:((ah T).drop (0+0)).take (T.length*65)=ah T:=dtn rfl
 have lT:=aV T
 have hp:=List.length_pos_iff.2 hT
 rw[suf_4]
 refine Runs.seq (Runs.seq (Runs.aA aj mixed (a8P A n c ty b _ _ _ _ _ _ g) trivial (i9P A n c ty b _ _ _ _ _ _ _) rfl fun g=> ?_))
 refine Runs.block ?_
 refine Runs.bn (fun(s:Nat × List Value)=>M9P n c b T.length ((s.1:Nat):Int)) (fun s=>m8P A n ty (lvals (A++[lf77])) (lvals (([]:List Lf)++[lf78])) s.2 (ah T) (ah T) T.length T.length) (fun s=>s.1≤T.length∧s.2.length=T.length*65) (fun s=>T.length-s.1) ?_ (0,ah T) ⟨Nat.zero_le _,lT⟩ g
 rintro⟨i,ta⟩ g ⟨hi,hta⟩
 have hi:i≤T.length:=hi
 have hta:ta.length=T.length*65:=hta
 show aC _ _ _ _ (fill g 0 (M9P n c b T.length (i:Int))) (m8P A n ty _ _ ta _ _ _ _) _
 rcases Nat.lt_or_ge i T.length with h | h
 ·have o65:=offs i 65
  have hb5:i*65+65≤T.length*65:=by have:=Nat.mul_le_mul_right 65 (show i+1≤T.length by omega);omega
  refine Runs.aA aj mixed (s8P A n c ty b _ _ ta _ _ _ i ((i+1:Nat):Int) g) ⟨decide_eq_true (by omega),by omega,by omega,by omega,by rw[IntKind.wrap_i64];omega,trivial⟩ (i9P A n c ty b _ _ _ _ _ _ _) rfl fun g=> ?_
  exact⟨(i+1,_),g,rfl,rfl,⟨by show i+1≤_;omega,by show(putV (0+offI 0 (i:Int) 65) [Value.int .i64 (-7)] ta).length=_;rw[putV_len (by rw[o65];show i*65+1≤_;omega)];exact hta⟩,by show T.length-(i+1)<T.length-i;omega⟩
 ·obtain rfl:i=T.length:=by omega
  refine Runs.aA aj mixed (o8P A n c ty b _ _ ta _ _ _ _ g) ⟨decide_eq_false (by omega),trivial⟩ (i8P A n c ty b _ _ _ _ _ _ _) rfl fun g=> ?_
  show aC _ _ _ _ _ _ _
  refine Runs.seq (Runs.seq (Runs.aA aj mixed (a13P A n c ty b _ _ _ _ _ _ g) trivial (iaP A n c ty b _ _ _ _ _ _ _ _ _ _) rfl fun g=> ?_))
  refine Runs.block ?_
  refine Runs.bn (fun(s:Nat × List Value)=>MaP n c b T.length (T.length+s.1) ((s.1:Nat):Int)) (fun s=>maP A n ty (lvals (A++[lf77])) (lvals (([]:List Lf)++[lf78])) s.2 (T.length+s.1) none (ah T) (ah T) T.length) (fun s=>s.1≤20∧s.2.length=(T.length+s.1)*65) (fun s=>20-s.1) ?_ (0,ta) ⟨Nat.zero_le _,hta⟩ g
  rintro⟨i,av⟩ g ⟨hi,hav⟩
  have hi:i≤20:=hi
  have hav:av.length=(T.length+i)*65:=hav
  show aC _ _ _ _ (fill g 0 (MaP n c b T.length (T.length+i) (i:Int))) (maP A n ty _ _ av (T.length+i) none _ _ _) _
  rcases Nat.lt_or_ge i 20 with h | h
  ·have hw:IntKind.i64.wrap ((i:Int)+1)=((i+1:Nat):Int):=by rw[IntKind.wrap_i64];omega
   have hl:(av++(⟨-7,zB,zB⟩:Nd).vals).length=(T.length+(i+1))*65:=by rw[List.length_append,hav,Nd.bR];omega
   refine Runs.roomV 3 (T.length+i+1) (own:=true) (ty:=33) (s:=65) (vs:=av) (lo:=T.length+i) rfl ?_ ?_
   ·refine Runs.aA aj mixed (sgP A n c ty b _ _ av _ _ _ (T.length+i) _ ((i+1:Nat):Int) g) ⟨decide_eq_true (by omega),rfl,by decide,by omega,Nat.le_refl _,oneV _,hw,trivial⟩ (iaP A n c ty b _ _ _ _ _ _ _ _ _ _) rfl fun g=> ?_
    exact⟨(i+1,_),g,rfl,rfl,⟨by show i+1≤20;omega,hl⟩,by show 20-(i+1)<20-i;omega⟩
   ·refine Runs.aH aj mixed [0,1,2,7,4,5] (srP A n c ty b _ _ av _ _ _ (T.length+i) (T.length+i) _ ((i+1:Nat):Int) g) ⟨decide_eq_true (by omega),rfl,by decide,by omega,Nat.le_refl _,roomN _ (by omega),hw,trivial⟩ (iaP A n c ty b _ _ _ _ _ _ _ _ _ _) rfl fun g=> ?_
    exact⟨(i+1,_),g,rfl,rfl,⟨by show i+1≤20;omega,hl⟩,by show 20-(i+1)<20-i;omega⟩
  ·refine Runs.aH aj mixed [0,1,2,4,5] (osP A n c ty b _ _ av _ _ _ _ _ _ _ g) ⟨decide_eq_false (by omega),trivial⟩ (ibP A n c ty b _ _ _ _ _) rfl fun g=> ?_
   show aC _ _ _ _ _ _ _
   have z:=vP H hH E hE' S hS' A n c ty b (lvals (A++[lf77])) (lvals (([]:List Lf)++[lf78])) (ah T) (ah T) T.length (chkT H E S zB zB T ([]:List Lf)) g
   rw[dT,d2,aO,aP] at z
   refine Runs.aW aj mixed 1 z ⟨b1,b2,by omega,Nat.le_refl _,w2,by omega,rfl,rfl,hk,rfl,rfl,nilL,by omega,rfl,trivial⟩ (ibP A n c ty b _ _ _ _ _) (by kernel_rfl) fun g=> ?_
   have z:=kP A n c ty b (lvals (A++[lf77])) (lvals (([]:List Lf)++[lf78])) (ah T) (ah T) T.length g
   rw[dT,aO] at z
   refine Runs.of_outNP aj mixed 1 [0,1,2] z ⟨a1,by omega,by omega,by omega,r1,congrArg (fun v=>SV.o (.a (.v v))) r2,b1,by omega,by omega,by omega,t1,congrArg (fun v=>SV.o (.a (.v v))) t2,by omega,Nat.le_refl _,by omega,Nat.le_refl _,rfl,rfl,rfl,rfl,by omega,trivial⟩ (ik A n c ty b _ _) (by kernel_rfl) fun g=> ?_
   exact ends H hH E hE' S hS' A n c ty b hn hc hA hb g
theorem mid (hH:H=hV) (E:B32) (hE':E=hE) (S:Nd→B32) (hS':S=hS) (A:List Lf) (n c:Nat) (ty:TypeId) (b:Option Addr) (hn:A.length=n) (hc:n≤c) (hA:AllL A) (hb:n≤3000000) (g:Nat→SV):aC Tryd.prog GT 1 S4 (fill g 0 (M4 n c b)) (m4 A n ty (lvals (A++[lf77])) (lvals (([]:List Lf)++[lf78])) 1 none) (aF tys fn (aT (aK.enc true) .none)):=by
 obtain⟨⟨a1,a2⟩,⟨b1,b2⟩,w1,w2,d1,d2,⟨r1,r2⟩,⟨t1,t2⟩⟩:=pre H hH E hE' S hS' A n c ty b hn hc hA hb
 have hX:=AllL.app (A:=A) (B:=([]:List Lf)) hA nilL
 have hap:=ap_dup hX
 have dY:((lvals A).drop (0+0)).take (n*64)=lvals A:=dtl hn
 cases hq:rndD (A++([]:List Lf)) (A++([]:List Lf)).length with
 | true=>
  rw[hq] at hap
  have z:=oE H hH E hE' S hS' A n c ty b (lvals (A++[lf77])) (lvals (([]:List Lf)++[lf78])) g
  rw[d1,d2,dY,aP,aP] at z
  refine Runs.aW aj mixed 3 z ⟨a1,a2,b1,b2,w1,by omega,w2,by omega,rfl,hn,rfl,rfl,by omega,hA,nilL,hap,a1,a2,b1,b2,w1,by omega,w2,by omega,rfl,hn,rfl,rfl,by omega,hA,nilL,hap,by rw[aU,hn];omega,hc,rfl,hn,hA,by omega,hq,trivial⟩ (i8 A n c ty b _ _) (by kernel_rfl) fun g=> ?_
  exact restO H hH E hE' S hS' A n c ty b hn hc hA hb g
 | false=>
  rw[hq] at hap
  rcases Nat.eq_zero_or_pos n with h0 | h0
  ·have hA0:A=[]:=List.eq_nil_of_length_eq_zero (by omega)
   have hz:stT H A ([]:List Lf)=[]:=by rw[hA0];exact st_nil H _
   have z:=oZ H hH E hE' S hS' A n c ty b (lvals (A++[lf77])) (lvals (([]:List Lf)++[lf78])) g
   rw[d1,d2,dY,aP,aP] at z
   refine Runs.aW aj mixed 3 z ⟨a1,a2,b1,b2,w1,by omega,w2,by omega,rfl,hn,rfl,rfl,by omega,hA,nilL,hap,hz,a1,a2,b1,b2,w1,by omega,w2,by omega,rfl,hn,rfl,rfl,by omega,hA,nilL,hap,hz,by rw[aU,hn];omega,hc,rfl,hn,hA,by omega,hq,h0,trivial⟩ (i8 A n c ty b _ _) (by kernel_rfl) fun g=> ?_
   exact restO H hH E hE' S hS' A n c ty b hn hc hA hb g
  ·have hne:A≠[]:=by rw[←List.length_pos_iff];omega
   have e:stT H A ([]:List Lf)=stR H A ([]:List Lf):=by rw[hH];exact st_eq hA nilL hq
   have hT:stR H A ([]:List Lf)≠[]:=st_ne (fun a b=>by rw[hH];exact hV_ok a b) hA nilL (by omega) hq
   have le:(stR H A ([]:List Lf)).length≤A.length:=by rw[hH];exact st_len hA nilL hq
   have hk:aN (stR H A ([]:List Lf)):=by rw[←e,hH];exact st_ok hA nilL hne (ap_left hA nilL hap).2
   have z:=oP H hH E hE' S hS' A n c ty b (lvals (A++[lf77])) (lvals (([]:List Lf)++[lf78])) g
   rw[d1,d2,dY,aP,aP,e] at z
   refine Runs.of_outNP aj mixed 3 [0,1,2,3,4,5] z ⟨a1,a2,b1,b2,w1,by omega,w2,by omega,rfl,hn,rfl,rfl,by omega,hA,nilL,hap,hT,a1,a2,b1,b2,w1,by omega,w2,by omega,rfl,hn,rfl,rfl,by omega,hA,nilL,hap,hT,by rw[aU,hn];omega,hc,rfl,hn,hA,by omega,hq,h0,trivial⟩ (i8P A n c ty b _ _ _ _ _ _ _) (by kernel_rfl) fun g=> ?_
   exact restP H hH E hE' S hS' A n c ty b hn hc hA hb _ hT hk (by omega) g
theorem two (hH:H=hV) (E:B32) (hE':E=hE) (S:Nd→B32) (hS':S=hS) (A:List Lf) (n c:Nat) (ty:TypeId) (b:Option Addr) (hn:A.length=n) (hc:n≤c) (hA:AllL A) (hb:n≤3000000) (g:Nat→SV):aC Tryd.prog GT 1 S3 (fill g 0 (M3 n c b)) (m3 A ty (lvals (A++[lf77])) (n+1) none) (aF tys fn (aT (aK.enc true) .none)):=by
 rw[suf_3b]
 refine Runs.seq (Runs.aH aj mixed [0,1,4] (bcz A n c ty b (lvals (A++[lf77])) g) ⟨rfl,by decide,by omega,roomLf 1 (by omega),trivial⟩ (i4z A n c ty b _ _ _ _) rfl fun g=> ?_)
 have ev:lf78.vals=lvals ([]++[lf78]):=(List.append_nil _).symm
 rw[ev]
 exact mid H hH E hE' S hS' A n c ty b hn hc hA hb g
theorem run (hH:H=hV) (E:B32) (hE':E=hE) (S:Nd→B32) (hS':S=hS) (A:List Lf) (n c:Nat) (ty:TypeId) (b:Option Addr) (hn:A.length=n) (hc:n≤c) (hA:AllL A) (hb:n≤3000000):aC Tryd.prog GT 1 body (aI fn [.o (.a (.sld 0 0 0 n c)),.o (.a (.v (.slice b 0 0)))]) [⟨false,ty,.prv (lvals A)⟩] (aF tys fn (aT (aK.enc true) .none)):=by
 refine Runs.aW aj mixed 2 (st A n c ty b) trivial (i2 A n c ty b) (by kernel_rfl) fun g=> ?_
 have dY:((lvals A).drop (0+0)).take (n*64)=lvals A:=dtl hn
 have la:(lvals A).length=n*64:=by rw[←hn];exact aU A
 rcases Nat.eq_zero_or_pos n with h0 | h0
 ·subst h0
  obtain rfl:=List.eq_nil_of_length_eq_zero hn
  rw[suf_2b]
  refine Runs.seq (Runs.aH aj mixed [0,3] (acz [] 0 c ty b g) ⟨Nat.zero_le _,hc,rfl,rfl,rfl,by decide,by omega,roomLf 1 (by omega),trivial⟩ (i3z [] 0 c ty b _ _ _) rfl fun g=> ?_)
  have ev:lf77.vals=lvals ([]++[lf77]):=(List.append_nil _).symm
  rw[ev]
  exact two H hH E hE' S hS' [] 0 c ty b hn hc hA hb g
 ·rw[suf_2]
  refine Runs.seq (Runs.region ?_)
  refine aJ.aH aj 2 [0,1] (ac1 A n c ty b g) ⟨by omega,hc,rfl,h0,roomLf n (by omega),trivial⟩ (iCa A n c ty b _ _ _) rfl fun g'=> ?_
  rw[dY]
  have ev:lvals A++lf77.vals=lvals (A++[lf77]):=(lvR A lf77).symm
  refine aJ.roomV 1 (n+1) (own:=true) (ty:=30) (s:=64) (vs:=lvals A) (lo:=n) rfl ?_ ?_
  ·refine aJ.aA aj 5 (acg A n c ty b (lvals A) g') ⟨rfl,by decide,by omega,Nat.le_refl _,dst.oneLv _,trivial⟩ (i3 A n c ty b _ _ _) rfl fun g=> ?_
   rw[nil3,ev]
   exact aJ.nil (two H hH E hE' S hS' A n c ty b hn hc hA hb g)
  ·refine aJ.aH aj 5 [0,3] (acr A n c ty b (lvals A) n g') ⟨rfl,by decide,by omega,Nat.le_refl _,roomLf _ (by omega),trivial⟩ (i3 A n c ty b _ _ _) rfl fun g=> ?_
   rw[nil3,ev]
   exact aJ.nil (two H hH E hE' S hS' A n c ty b hn hc hA hb g)
end
end wn
namespace nw
theorem ends (H:Nd→Nd→B32) (hH:H=hV) (E:B32) (hE':E=hE) (S:Nd→B32) (hS':S=hS) (a:Option Addr) (B:List Lf) (m d:Nat) (ty2:TypeId) (hm:B.length=m) (hd:m≤d) (hB:AllL B) (hb:m≤3000000) (g:Nat→SV):aC Tryd.prog GT 1 (csuf 2 S17) (fill g 0 (Mk a m d)) (m4 B ty2 (lvals (([]:List Lf)++[lf77])) (lvals (B++[lf78])) (m+1) none) (aF tys fn (aT (aK.enc true) .none)):=by
 rw[suf_17]
 refine Runs.seq (Runs.seq (Runs.aA aj mixed (ax a B m d ty2 (lvals (([]:List Lf)++[lf77])) (lvals (B++[lf78])) g) trivial (ilx a B m d ty2 _ _) rfl fun g=> ?_))
 refine Runs.block ?_
 refine Runs.bn (fun(_:Unit)=>Mlx a m d) (fun _=>m4 B ty2 (lvals (([]:List Lf)++[lf77])) (lvals (B++[lf78])) (m+1) none) (fun _=>True) (fun _=>0) ?_ () trivial g
 rintro _ g _
 refine Runs.aA aj mixed (oex a B m d ty2 (lvals (([]:List Lf)++[lf77])) (lvals (B++[lf78])) g) trivial (ik a B m d ty2 _ _) rfl fun g=> ?_
 show aC _ _ _ _ _ _ _
 refine Runs.seq (Runs.seq (Runs.aA aj mixed (ay a B m d ty2 (lvals (([]:List Lf)++[lf77])) (lvals (B++[lf78])) g) trivial (ily a B m d ty2 _ _ _) rfl fun g=> ?_))
 refine Runs.block ?_
 refine Runs.bn (fun(i:Nat)=>Mly a m d (i:Int)) (fun _=>m4 B ty2 (lvals (([]:List Lf)++[lf77])) (lvals (B++[lf78])) (m+1) none) (fun i=>i≤m) (fun i=>m-i) ?_ 0 (Nat.zero_le _) g
 rintro i g hi
 rcases Nat.lt_or_ge i m with h | h
 ·obtain⟨c1,c2⟩:=dst.ld_leaf B (show i<B.length by omega)
  obtain⟨d1,d2⟩:=ld_again B lf78 (show i<B.length by omega)
  refine Runs.aA aj mixed (sey a B m d ty2 (lvals (([]:List Lf)++[lf77])) (lvals (B++[lf78])) i ((i+1:Nat):Int) _ g) ⟨decide_eq_true (by omega),by omega,by omega,d1,d2,by omega,by omega,c1,c2,flat_lf,eqL_refl _,by rw[IntKind.wrap_i64];omega,trivial⟩ (ily a B m d ty2 _ _ _) rfl fun g=> ?_
  exact⟨i+1,g,rfl,rfl,by omega,by omega⟩
 ·refine Runs.aA aj mixed (oey a B m d ty2 (lvals (([]:List Lf)++[lf77])) (lvals (B++[lf78])) i g) ⟨decide_eq_false (by omega),trivial⟩ (ik a B m d ty2 _ _) rfl fun g=> ?_
  show aC _ _ _ _ _ _ _
  exact Runs.aH aj mixed [0] (dd a B m d ty2 (lvals (([]:List Lf)++[lf77])) (lvals (B++[lf78])) g) trivial (by kernel_rfl) rfl fun g=>aF.ret (zr g _) rfl
theorem pre (H:Nd→Nd→B32) (hH:H=hV) (E:B32) (hE':E=hE) (S:Nd→B32) (hS':S=hS) (a:Option Addr) (B:List Lf) (m d:Nat) (ty2:TypeId) (hm:B.length=m) (hd:m≤d) (hB:AllL B) (hb:m≤3000000):(0≤(0:Int)∧(0:Int)≤(1:Nat))∧(0≤(m:Int)∧(m:Int)≤(m+1:Nat))∧0+0+0*64≤(lvals (([]:List Lf)++[lf77])).length∧0+0+m*64≤(lvals (B++[lf78])).length∧((lvals (([]:List Lf)++[lf77])).drop (0+0)).take (0*64)=lvals ([]:List Lf)∧((lvals (B++[lf78])).drop (0+0)).take (m*64)=lvals B∧
  (0+offI (offI 0 (0:Int) 64+32) 0 1<(lvals (([]:List Lf)++[lf77])).length∧(lvals (([]:List Lf)++[lf77])).getD (0+offI (offI 0 (0:Int) 64+32) 0 1) undef= .int .u8 77)∧(0+offI (offI 0 (m:Int) 64+32) 0 1<(lvals (B++[lf78])).length∧(lvals (B++[lf78])).getD (0+offI (offI 0 (m:Int) 64+32) 0 1) undef= .int .u8 78):=by
 have r1:=ld_room ([]:List Lf) lf77
 have r2:=ld_room B lf78
 have p1:=pre_room ([]:List Lf) rfl lf77
 have p2:=pre_room B hm lf78
 have l1:(lvals (([]:List Lf)++[lf77])).length=1*64:=by rw[aU,List.length_append,List.length_singleton];rfl
 have l2:(lvals (B++[lf78])).length=(m+1)*64:=by rw[aU,List.length_append,List.length_singleton];rw[hm]
 rw[show(([]:List Lf).length:Int)=0 from rfl] at r1
 rw[hm] at r2
 exact⟨⟨by omega,by omega⟩,⟨by omega,by omega⟩,by omega,by omega,p1,p2,r1,r2⟩
def MA (a:Option Addr) (m d:Nat):Nat→List (Option SV)
 | 0=>Mz a m d
 | i+1=>Ma a m d (i+1) ((i+1:Nat):Int)
def mA (H:Nd→Nd→B32) (hH:H=hV) (E:B32) (hE':E=hE) (S:Nd→B32) (hS':S=hS) (a:Option Addr) (B:List Lf) (m d:Nat) (ty2:TypeId) (us vs:List Value):Nat × List Value→List Blk
 | (0,_)=>m4 B ty2 us vs (m+1) none
 | (i+1,av)=>ma B m ty2 us vs av (i+1) none
theorem restO (H:Nd→Nd→B32) (hH:H=hV) (E:B32) (hE':E=hE) (S:Nd→B32) (hS':S=hS) (a:Option Addr) (B:List Lf) (m d:Nat) (ty2:TypeId) (hm:B.length=m) (hd:m≤d) (hB:AllL B) (hb:m≤3000000) (g:Nat→SV):aC Tryd.prog GT 1 (csuf 3 S4) (fill g 0 (M8 a m d)) (m4 B ty2 (lvals (([]:List Lf)++[lf77])) (lvals (B++[lf78])) (m+1) none) (aF tys fn (aT (aK.enc true) .none)):=by
 obtain⟨⟨a1,a2⟩,⟨b1,b2⟩,w1,w2,d1,d2,⟨r1,r2⟩,⟨t1,t2⟩⟩:=pre H hH E hE' S hS' a B m d ty2 hm hd hB hb
 rw[suf_4]
 refine Runs.seq (Runs.seq (Runs.aA aj mixed (a8 a B m d ty2 _ _ g) trivial (i9 a B m d ty2 _ _) rfl fun g=> ?_))
 refine Runs.block ?_
 refine Runs.bn (fun(_:Unit)=>M9 a m d) (fun _=>m4 B ty2 (lvals (([]:List Lf)++[lf77])) (lvals (B++[lf78])) (m+1) none) (fun _=>True) (fun _=>0) ?_ () trivial g
 rintro _ g _
 refine Runs.aA aj mixed (o8 a B m d ty2 _ _ g) trivial (i8 a B m d ty2 _ _) rfl fun g=> ?_
 show aC _ _ _ _ _ _ _
 refine Runs.seq (Runs.seq (Runs.aA aj mixed (a13 a B m d ty2 _ _ g) trivial (iz a B m d ty2 _ _) rfl fun g=> ?_))
 refine Runs.block ?_
 refine Runs.bn (fun(s:Nat × List Value)=>MA a m d s.1) (fun s=>mA H hH E hE' S hS' a B m d ty2 (lvals (([]:List Lf)++[lf77])) (lvals (B++[lf78])) s) (fun s=>s.1≤20∧(0<s.1→s.2.length=s.1*65)) (fun s=>20-s.1) ?_ (0,[]) ⟨Nat.zero_le _,fun h=>absurd h (by omega)⟩ g
 rintro⟨i,av⟩ g ⟨hi,hav⟩
 have hi:i≤20:=hi
 cases i with
 | zero=>
  refine Runs.aH aj mixed [0,1,2,4] (zy a B m d ty2 _ _ g) ⟨rfl,by decide,by omega,roomN 1 (by omega),trivial⟩ (ia a B m d ty2 _ _ _ _ _ _ _) rfl fun g=> ?_
  exact⟨(1,(⟨-7,zB,zB⟩:Nd).vals),g,rfl,rfl,⟨by omega,fun _=>rfl⟩,by omega⟩
 | succ i=>
  have hav:av.length=(i+1)*65:=hav (by omega)
  show aC _ _ _ _ (fill g 0 (Ma a m d (i+1) ((i+1:Nat):Int))) (ma B m ty2 _ _ av (i+1) none) _
  rcases Nat.lt_or_ge (i+1) 20 with h | h
  ·have hw:IntKind.i64.wrap (((i+1:Nat):Int)+1)=((i+1+1:Nat):Int):=by rw[IntKind.wrap_i64];omega
   have hl:(av++(⟨-7,zB,zB⟩:Nd).vals).length=(i+1+1)*65:=by rw[List.length_append,hav,Nd.bR];omega
   refine Runs.roomV 3 (i+1+1) (own:=true) (ty:=33) (s:=65) (vs:=av) (lo:=i+1) rfl ?_ ?_
   ·refine Runs.aA aj mixed (sg a B m d ty2 _ _ av (i+1) _ ((i+1+1:Nat):Int) g) ⟨decide_eq_true (by omega),rfl,by decide,by omega,Nat.le_refl _,oneV _,hw,trivial⟩ (ia a B m d ty2 _ _ _ _ _ _ _) rfl fun g=> ?_
    exact⟨(i+1+1,_),g,rfl,rfl,⟨by omega,fun _=>hl⟩,by omega⟩
   ·refine Runs.aH aj mixed [0,1,2,5] (sr a B m d ty2 _ _ av (i+1) (i+1) _ ((i+1+1:Nat):Int) g) ⟨decide_eq_true (by omega),rfl,by decide,by omega,Nat.le_refl _,roomN _ (by omega),hw,trivial⟩ (ia a B m d ty2 _ _ _ _ _ _ _) rfl fun g=> ?_
    exact⟨(i+1+1,_),g,rfl,rfl,⟨by omega,fun _=>hl⟩,by omega⟩
  ·refine Runs.aH aj mixed [0,1,2] (os a B m d ty2 _ _ av _ _ _ _ g) ⟨decide_eq_false (by omega),trivial⟩ (ib a B m d ty2 _ _) rfl fun g=> ?_
   show aC _ _ _ _ _ _ _
   have z:=vO H hH E hE' S hS' a B m d ty2 (lvals (([]:List Lf)++[lf77])) (lvals (B++[lf78])) (chkT H E S zB zB [] B) g
   rw[d2,aP] at z
   refine Runs.aW aj mixed 1 z ⟨b1,b2,w2,by omega,rfl,hm,hB,by omega,rfl,trivial⟩ (ib a B m d ty2 _ _) (by kernel_rfl) fun g=> ?_
   refine Runs.aW aj mixed 1 (kO a B m d ty2 (lvals (([]:List Lf)++[lf77])) (lvals (B++[lf78])) g) ⟨a1,by omega,by omega,by omega,r1,congrArg (fun v=>SV.o (.a (.v v))) r2,b1,by omega,by omega,by omega,t1,congrArg (fun v=>SV.o (.a (.v v))) t2,trivial⟩ (ik a B m d ty2 _ _) (by kernel_rfl) fun g=> ?_
   exact ends H hH E hE' S hS' a B m d ty2 hm hd hB hb g
theorem mid (H:Nd→Nd→B32) (hH:H=hV) (E:B32) (hE':E=hE) (S:Nd→B32) (hS':S=hS) (a:Option Addr) (B:List Lf) (m d:Nat) (ty2:TypeId) (hm:B.length=m) (hd:m≤d) (hB:AllL B) (hb:m≤3000000) (g:Nat→SV):aC Tryd.prog GT 1 S4 (fill g 0 (M4 a m d)) (m4 B ty2 (lvals (([]:List Lf)++[lf77])) (lvals (B++[lf78])) (m+1) none) (aF tys fn (aT (aK.enc true) .none)):=by
 obtain⟨⟨a1,a2⟩,⟨b1,b2⟩,w1,w2,d1,d2,⟨r1,r2⟩,⟨t1,t2⟩⟩:=pre H hH E hE' S hS' a B m d ty2 hm hd hB hb
 have hX:=AllL.app (A:=([]:List Lf)) (B:=B) nilL hB
 have hap:=ap_dup hX
 have dW:((lvals B).drop (0+0)).take (m*64)=lvals B:=dtl hm
 cases hq:rndD (([]:List Lf)++B) (([]:List Lf)++B).length with
 | true=>
  rw[hq] at hap
  have z:=oE H hH E hE' S hS' a B m d ty2 (lvals (([]:List Lf)++[lf77])) (lvals (B++[lf78])) g
  rw[d1,d2,dW,aP,aP] at z
  refine Runs.aW aj mixed 3 z ⟨a1,a2,b1,b2,w1,by omega,w2,by omega,rfl,rfl,rfl,hm,by omega,nilL,hB,hap,a1,a2,b1,b2,w1,by omega,w2,by omega,rfl,rfl,rfl,hm,by omega,nilL,hB,hap,by rw[aU,hm];omega,hd,rfl,hm,hB,by omega,hq,trivial⟩ (i8 a B m d ty2 _ _) (by kernel_rfl) fun g=> ?_
  exact restO H hH E hE' S hS' a B m d ty2 hm hd hB hb g
 | false=>
  rw[hq] at hap
  have hz:stT H ([]:List Lf) B=[]:=st_nil H _
  have z:=oZ H hH E hE' S hS' a B m d ty2 (lvals (([]:List Lf)++[lf77])) (lvals (B++[lf78])) g
  rw[d1,d2,dW,aP,aP] at z
  refine Runs.aW aj mixed 3 z ⟨a1,a2,b1,b2,w1,by omega,w2,by omega,rfl,rfl,rfl,hm,by omega,nilL,hB,hap,hz,a1,a2,b1,b2,w1,by omega,w2,by omega,rfl,rfl,rfl,hm,by omega,nilL,hB,hap,hz,by rw[aU,hm];omega,hd,rfl,hm,hB,by omega,hq,trivial⟩ (i8 a B m d ty2 _ _) (by kernel_rfl) fun g=> ?_
  exact restO H hH E hE' S hS' a B m d ty2 hm hd hB hb g
theorem two (H:Nd→Nd→B32) (hH:H=hV) (E:B32) (hE':E=hE) (S:Nd→B32) (hS':S=hS) (a:Option Addr) (B:List Lf) (m d:Nat) (ty2:TypeId) (hm:B.length=m) (hd:m≤d) (hB:AllL B) (hb:m≤3000000) (g:Nat→SV):aC Tryd.prog GT 1 S3 (fill g 0 (M3 a m d)) (m3 B ty2 (lvals (([]:List Lf)++[lf77])) 1 none) (aF tys fn (aT (aK.enc true) .none)):=by
 have dW:((lvals B).drop (0+0)).take (m*64)=lvals B:=dtl hm
 have lb:(lvals B).length=m*64:=by rw[←hm];exact aU B
 rcases Nat.eq_zero_or_pos m with h1 | h1
 ·subst h1
  obtain rfl:=List.eq_nil_of_length_eq_zero hm
  rw[suf_3b]
  refine Runs.seq (Runs.aH aj mixed [0,1,4] (bcz a [] 0 d ty2 (lvals (([]:List Lf)++[lf77])) g) ⟨Nat.zero_le _,hd,rfl,rfl,rfl,by decide,by omega,roomLf 1 (by omega),trivial⟩ (i4z a [] 0 d ty2 _ _ _ _) rfl fun g=> ?_)
  have ev:lf78.vals=lvals ([]++[lf78]):=(List.append_nil _).symm
  rw[ev]
  exact mid H hH E hE' S hS' a [] 0 d ty2 hm hd hB hb g
 ·rw[suf_3]
  refine Runs.seq (Runs.region ?_)
  refine aJ.aH aj 2 [0,1,2] (bc1 a B m d ty2 _ g) ⟨by omega,hd,rfl,h1,roomLf m (by omega),trivial⟩ (iCb a B m d ty2 _ _ _ _) rfl fun g'=> ?_
  rw[dW]
  have ev:lvals B++lf78.vals=lvals (B++[lf78]):=(lvR B lf78).symm
  refine aJ.roomV 2 (m+1) (own:=true) (ty:=30) (s:=64) (vs:=lvals B) (lo:=m) rfl ?_ ?_
  ·refine aJ.aA aj 5 (bcg a B m d ty2 _ (lvals B) g') ⟨rfl,by decide,by omega,Nat.le_refl _,dst.oneLv _,trivial⟩ (i4 a B m d ty2 _ _ _ _) rfl fun g=> ?_
   rw[nil4,ev]
   exact aJ.nil (mid H hH E hE' S hS' a B m d ty2 hm hd hB hb g)
  ·refine aJ.aH aj 5 [0,1,4] (bcr a B m d ty2 _ (lvals B) m g') ⟨rfl,by decide,by omega,Nat.le_refl _,roomLf _ (by omega),trivial⟩ (i4 a B m d ty2 _ _ _ _) rfl fun g=> ?_
   rw[nil4,ev]
   exact aJ.nil (mid H hH E hE' S hS' a B m d ty2 hm hd hB hb g)
theorem run (H:Nd→Nd→B32) (hH:H=hV) (E:B32) (hE':E=hE) (S:Nd→B32) (hS':S=hS) (a:Option Addr) (B:List Lf) (m d:Nat) (ty2:TypeId) (hm:B.length=m) (hd:m≤d) (hB:AllL B) (hb:m≤3000000):aC Tryd.prog GT 1 body (aI fn [.o (.a (.v (.slice a 0 0))),.o (.a (.sld 0 0 0 m d))]) [⟨false,ty2,.prv (lvals B)⟩] (aF tys fn (aT (aK.enc true) .none)):=by
 refine Runs.aW aj mixed 2 (st a B m d ty2) trivial (i2 a B m d ty2) (by kernel_rfl) fun g=> ?_
 rw[suf_2b]
 refine Runs.seq (Runs.aH aj mixed [0,3] (acz a B m d ty2 g) ⟨rfl,by decide,by omega,roomLf 1 (by omega),trivial⟩ (i3z a B m d ty2 _ _ _) rfl fun g=> ?_)
 have ev:lf77.vals=lvals ([]++[lf77]):=(List.append_nil _).symm
 rw[ev]
 exact two H hH E hE' S hS' a B m d ty2 hm hd hB hb g
end nw
namespace nn
theorem ends (H:Nd→Nd→B32) (hH:H=hV) (E:B32) (hE':E=hE) (S:Nd→B32) (hS':S=hS) (a:Option Addr) (b:Option Addr) (g:Nat→SV):aC Tryd.prog GT 0 (csuf 2 S17) (fill g 0 (Mk a b)) (m4 (lvals (([]:List Lf)++[lf77])) (lvals (([]:List Lf)++[lf78])) 1 none) (aF tys fn (aT (aK.enc true) .none)):=by
 rw[suf_17]
 refine Runs.seq (Runs.seq (Runs.aA aj mixed (ax a b (lvals (([]:List Lf)++[lf77])) (lvals (([]:List Lf)++[lf78])) g) trivial (ilx a b _ _) rfl fun g=> ?_))
 refine Runs.block ?_
 refine Runs.bn (fun(_:Unit)=>Mlx a b) (fun _=>m4 (lvals (([]:List Lf)++[lf77])) (lvals (([]:List Lf)++[lf78])) 1 none) (fun _=>True) (fun _=>0) ?_ () trivial g
 rintro _ g _
 refine Runs.aA aj mixed (oex a b (lvals (([]:List Lf)++[lf77])) (lvals (([]:List Lf)++[lf78])) g) trivial (ik a b _ _) rfl fun g=> ?_
 show aC _ _ _ _ _ _ _
 refine Runs.seq (Runs.seq (Runs.aA aj mixed (ay a b (lvals (([]:List Lf)++[lf77])) (lvals (([]:List Lf)++[lf78])) g) trivial (ily a b _ _) rfl fun g=> ?_))
 refine Runs.block ?_
 refine Runs.bn (fun(_:Unit)=>Mly a b) (fun _=>m4 (lvals (([]:List Lf)++[lf77])) (lvals (([]:List Lf)++[lf78])) 1 none) (fun _=>True) (fun _=>0) ?_ () trivial g
 rintro _ g _
 refine Runs.aA aj mixed (oey a b (lvals (([]:List Lf)++[lf77])) (lvals (([]:List Lf)++[lf78])) g) trivial (ik a b _ _) rfl fun g=> ?_
 show aC _ _ _ _ _ _ _
 exact Runs.aH aj mixed [] (dd a b (lvals (([]:List Lf)++[lf77])) (lvals (([]:List Lf)++[lf78])) g) trivial (by kernel_rfl) rfl fun g=>aF.ret (zr g _) rfl
theorem pre (H:Nd→Nd→B32) (hH:H=hV) (E:B32) (hE':E=hE) (S:Nd→B32) (hS':S=hS) (a:Option Addr) (b:Option Addr):(0≤(0:Int)∧(0:Int)≤(1:Nat))∧(0≤(0:Int)∧(0:Int)≤(1:Nat))∧0+0+0*64≤(lvals (([]:List Lf)++[lf77])).length∧0+0+0*64≤(lvals (([]:List Lf)++[lf78])).length∧((lvals (([]:List Lf)++[lf77])).drop (0+0)).take (0*64)=lvals ([]:List Lf)∧((lvals (([]:List Lf)++[lf78])).drop (0+0)).take (0*64)=lvals ([]:List Lf)∧
  (0+offI (offI 0 (0:Int) 64+32) 0 1<(lvals (([]:List Lf)++[lf77])).length∧(lvals (([]:List Lf)++[lf77])).getD (0+offI (offI 0 (0:Int) 64+32) 0 1) undef= .int .u8 77)∧(0+offI (offI 0 (0:Int) 64+32) 0 1<(lvals (([]:List Lf)++[lf78])).length∧(lvals (([]:List Lf)++[lf78])).getD (0+offI (offI 0 (0:Int) 64+32) 0 1) undef= .int .u8 78):=by
 have r1:=ld_room ([]:List Lf) lf77
 have r2:=ld_room ([]:List Lf) lf78
 have p1:=pre_room ([]:List Lf) rfl lf77
 have p2:=pre_room ([]:List Lf) rfl lf78
 have l1:(lvals (([]:List Lf)++[lf77])).length=1*64:=by rw[aU,List.length_append,List.length_singleton];rfl
 have l2:(lvals (([]:List Lf)++[lf78])).length=1*64:=by rw[aU,List.length_append,List.length_singleton];rfl
 rw[show(([]:List Lf).length:Int)=0 from rfl] at r1
 rw[show(([]:List Lf).length:Int)=0 from rfl] at r2
 exact⟨⟨by omega,by omega⟩,⟨by omega,by omega⟩,by omega,by omega,p1,p2,r1,r2⟩
def MA (a:Option Addr) (b:Option Addr):Nat→List (Option SV)
 | 0=>Mz a b
 | i+1=>Ma a b (i+1) ((i+1:Nat):Int)
def mA (H:Nd→Nd→B32) (hH:H=hV) (E:B32) (hE':E=hE) (S:Nd→B32) (hS':S=hS) (a:Option Addr) (b:Option Addr) (us vs:List Value):Nat × List Value→List Blk
 | (0,_)=>m4 us vs 1 none
 | (i+1,av)=>ma us vs av (i+1) none
theorem restO (H:Nd→Nd→B32) (hH:H=hV) (E:B32) (hE':E=hE) (S:Nd→B32) (hS':S=hS) (a:Option Addr) (b:Option Addr) (g:Nat→SV):aC Tryd.prog GT 0 (csuf 3 S4) (fill g 0 (M8 a b)) (m4 (lvals (([]:List Lf)++[lf77])) (lvals (([]:List Lf)++[lf78])) 1 none) (aF tys fn (aT (aK.enc true) .none)):=by
 obtain⟨⟨a1,a2⟩,⟨b1,b2⟩,w1,w2,d1,d2,⟨r1,r2⟩,⟨t1,t2⟩⟩:=pre H hH E hE' S hS' a b
 rw[suf_4]
 refine Runs.seq (Runs.seq (Runs.aA aj mixed (a8 a b _ _ g) trivial (i9 a b _ _) rfl fun g=> ?_))
 refine Runs.block ?_
 refine Runs.bn (fun(_:Unit)=>M9 a b) (fun _=>m4 (lvals (([]:List Lf)++[lf77])) (lvals (([]:List Lf)++[lf78])) 1 none) (fun _=>True) (fun _=>0) ?_ () trivial g
 rintro _ g _
 refine Runs.aA aj mixed (o8 a b _ _ g) trivial (i8 a b _ _) rfl fun g=> ?_
 show aC _ _ _ _ _ _ _
 refine Runs.seq (Runs.seq (Runs.aA aj mixed (a13 a b _ _ g) trivial (iz a b _ _) rfl fun g=> ?_))
 refine Runs.block ?_
 refine Runs.bn (fun(s:Nat × List Value)=>MA a b s.1) (fun s=>mA H hH E hE' S hS' a b (lvals (([]:List Lf)++[lf77])) (lvals (([]:List Lf)++[lf78])) s) (fun s=>s.1≤20∧(0<s.1→s.2.length=s.1*65)) (fun s=>20-s.1) ?_ (0,[]) ⟨Nat.zero_le _,fun h=>absurd h (by omega)⟩ g
 rintro⟨i,av⟩ g ⟨hi,hav⟩
 have hi:i≤20:=hi
 cases i with
 | zero=>
  refine Runs.aH aj mixed [0,1,3] (zy a b _ _ g) ⟨rfl,by decide,by omega,roomN 1 (by omega),trivial⟩ (ia a b _ _ _ _ _ _ _) rfl fun g=> ?_
  exact⟨(1,(⟨-7,zB,zB⟩:Nd).vals),g,rfl,rfl,⟨by omega,fun _=>rfl⟩,by omega⟩
 | succ i=>
  have hav:av.length=(i+1)*65:=hav (by omega)
  show aC _ _ _ _ (fill g 0 (Ma a b (i+1) ((i+1:Nat):Int))) (ma _ _ av (i+1) none) _
  rcases Nat.lt_or_ge (i+1) 20 with h | h
  ·have hw:IntKind.i64.wrap (((i+1:Nat):Int)+1)=((i+1+1:Nat):Int):=by rw[IntKind.wrap_i64];omega
   have hl:(av++(⟨-7,zB,zB⟩:Nd).vals).length=(i+1+1)*65:=by rw[List.length_append,hav,Nd.bR];omega
   refine Runs.roomV 2 (i+1+1) (own:=true) (ty:=33) (s:=65) (vs:=av) (lo:=i+1) rfl ?_ ?_
   ·refine Runs.aA aj mixed (sg a b _ _ av (i+1) _ ((i+1+1:Nat):Int) g) ⟨decide_eq_true (by omega),rfl,by decide,by omega,Nat.le_refl _,oneV _,hw,trivial⟩ (ia a b _ _ _ _ _ _ _) rfl fun g=> ?_
    exact⟨(i+1+1,_),g,rfl,rfl,⟨by omega,fun _=>hl⟩,by omega⟩
   ·refine Runs.aH aj mixed [0,1,4] (sr a b _ _ av (i+1) (i+1) _ ((i+1+1:Nat):Int) g) ⟨decide_eq_true (by omega),rfl,by decide,by omega,Nat.le_refl _,roomN _ (by omega),hw,trivial⟩ (ia a b _ _ _ _ _ _ _) rfl fun g=> ?_
    exact⟨(i+1+1,_),g,rfl,rfl,⟨by omega,fun _=>hl⟩,by omega⟩
  ·refine Runs.aH aj mixed [0,1] (os a b _ _ av _ _ _ _ g) ⟨decide_eq_false (by omega),trivial⟩ (ib a b _ _) rfl fun g=> ?_
   show aC _ _ _ _ _ _ _
   have z:=vO H hH E hE' S hS' a b (lvals (([]:List Lf)++[lf77])) (lvals (([]:List Lf)++[lf78])) (chkT H E S zB zB [] ([]:List Lf)) g
   rw[d2,aP] at z
   refine Runs.aW aj mixed 1 z ⟨b1,b2,w2,by omega,rfl,rfl,nilL,by omega,rfl,trivial⟩ (ib a b _ _) (by kernel_rfl) fun g=> ?_
   refine Runs.aW aj mixed 1 (kO a b (lvals (([]:List Lf)++[lf77])) (lvals (([]:List Lf)++[lf78])) g) ⟨a1,by omega,by omega,by omega,r1,congrArg (fun v=>SV.o (.a (.v v))) r2,b1,by omega,by omega,by omega,t1,congrArg (fun v=>SV.o (.a (.v v))) t2,trivial⟩ (ik a b _ _) (by kernel_rfl) fun g=> ?_
   exact ends H hH E hE' S hS' a b g
theorem mid (H:Nd→Nd→B32) (hH:H=hV) (E:B32) (hE':E=hE) (S:Nd→B32) (hS':S=hS) (a:Option Addr) (b:Option Addr) (g:Nat→SV):aC Tryd.prog GT 0 S4 (fill g 0 (M4 a b)) (m4 (lvals (([]:List Lf)++[lf77])) (lvals (([]:List Lf)++[lf78])) 1 none) (aF tys fn (aT (aK.enc true) .none)):=by
 obtain⟨⟨a1,a2⟩,⟨b1,b2⟩,w1,w2,d1,d2,⟨r1,r2⟩,⟨t1,t2⟩⟩:=pre H hH E hE' S hS' a b
 have hX:=AllL.app (A:=([]:List Lf)) (B:=([]:List Lf)) nilL nilL
 have hap:=ap_dup hX
 have hap:aM (tndV (([]:List Lf)++([]:List Lf)))=true:=hap.trans rfl
 have hz:stT H ([]:List Lf) ([]:List Lf)=[]:=st_nil H _
 have z:=oZ H hH E hE' S hS' a b (lvals (([]:List Lf)++[lf77])) (lvals (([]:List Lf)++[lf78])) g
 rw[d1,d2,aP] at z
 refine Runs.aW aj mixed 3 z ⟨a1,a2,b1,b2,w1,by omega,w2,by omega,rfl,rfl,rfl,rfl,by omega,nilL,nilL,hap,hz,a1,a2,b1,b2,w1,by omega,w2,by omega,rfl,rfl,rfl,rfl,by omega,nilL,nilL,hap,hz,trivial⟩ (i8 a b _ _) (by kernel_rfl) fun g=> ?_
 exact restO H hH E hE' S hS' a b g
theorem two (H:Nd→Nd→B32) (hH:H=hV) (E:B32) (hE':E=hE) (S:Nd→B32) (hS':S=hS) (a:Option Addr) (b:Option Addr) (g:Nat→SV):aC Tryd.prog GT 0 S3 (fill g 0 (M3 a b)) (m3 (lvals (([]:List Lf)++[lf77])) 1 none) (aF tys fn (aT (aK.enc true) .none)):=by
 rw[suf_3b]
 refine Runs.seq (Runs.aH aj mixed [0,3] (bcz a b (lvals (([]:List Lf)++[lf77])) g) ⟨rfl,by decide,by omega,roomLf 1 (by omega),trivial⟩ (i4z a b _ _ _ _) rfl fun g=> ?_)
 have ev:lf78.vals=lvals ([]++[lf78]):=(List.append_nil _).symm
 rw[ev]
 exact mid H hH E hE' S hS' a b g
theorem run (H:Nd→Nd→B32) (hH:H=hV) (E:B32) (hE':E=hE) (S:Nd→B32) (hS':S=hS) (a:Option Addr) (b:Option Addr):aC Tryd.prog GT 0 body (aI fn [.o (.a (.v (.slice a 0 0))),.o (.a (.v (.slice b 0 0)))]) [] (aF tys fn (aT (aK.enc true) .none)):=by
 refine Runs.aW aj mixed 2 (st a b) trivial (i2 a b) (by kernel_rfl) fun g=> ?_
 rw[suf_2b]
 refine Runs.seq (Runs.aH aj mixed [2] (acz a b g) ⟨rfl,by decide,by omega,roomLf 1 (by omega),trivial⟩ (i3z a b _ _ _) rfl fun g=> ?_)
 have ev:lf77.vals=lvals ([]++[lf77]):=(List.append_nil _).symm
 rw[ev]
 exact two H hH E hE' S hS' a b g
end nn
end lgke
end Go.Proofs.YtdccehmekkcheaaDoor

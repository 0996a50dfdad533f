/- beaconref11.Nodes: walk, contracts. -/
import Derived.Test.YtdccehmekkcheaaDoorYTrX
namespace Go.Proofs.YtdccehmekkcheaaDoor
open Go Go.Eng Go.RowKit
set_option linter.unusedVariables false
set_option linter.unusedSimpArgs false
set_option maxRecDepth 100000
def insK (out:List Nd) (x:Nd):Nat→Nat
 | 0=>0
 | k+1=>bif ltV x.pre (out.getD k zn).pre then insK out x k else k+1
def insV (out:List Nd) (x:Nd):List Nd:=out.take (insK out x out.length)++x::out.drop (insK out x out.length)
def dupK (out:List Nd) (x:Nd):Nat→Bool
 | 0=>false
 | k+1=>eqL (out.getD k zn).pre.to x.pre.to
def dupV (out:List Nd) (x:Nd):Bool:=dupK out x (insK out x out.length)
noncomputable def rndA (l:List Lf):Nat→List Nd
 | 0=>[]
 | i+1=>insV (rndA l i) (leafV (l.getD i zl))
noncomputable def rndD (l:List Lf):Nat→Bool
 | 0=>false
 | i+1=>rndD l i||dupV (rndA l i) (leafV (l.getD i zl))
theorem insK_le (out:List Nd) (x:Nd):∀k,insK out x k≤k
 | 0=>Nat.le_refl _
 | k+1=>by
  unfold insK
  cases ltV x.pre (out.getD k zn).pre
  ·exact Nat.le_refl _
  ·exact Nat.le_succ_of_le (insK_le out x k)
theorem insV_len (out:List Nd) (x:Nd):(insV out x).length=out.length+1:=by
 have:=insK_le out x out.length
 unfold insV
 rw[List.length_append,List.length_take,List.length_cons,List.length_drop]
 omega
theorem rndA_len (l:List Lf):∀i,(rndA l i).length=i
 | 0=>rfl
 | i+1=>by rw[rndA,insV_len,rndA_len l i]
theorem rndD_mono {l:List Lf} {i:Nat} (h:rndD l i=true):∀{n},i≤n→rndD l n=true
 | 0,hi=>by
        obtain rfl:i=0:=by omega
        exact h
 | n+1,hi=>by
  rcases Nat.lt_or_ge i (n+1) with h1 | h1
  ·rw[rndD,rndD_mono h (by omega),Bool.true_or]
  ·obtain rfl:i=n+1:=by omega
   exact h
theorem mem_insV {out:List Nd} {x y:Nd} (h:y∈insV out x):y=x∨y∈out:=by
 unfold insV at h
 rcases List.mem_append.1 h with h | h
 ·exact .inr (List.mem_of_mem_take h)
 ·rcases List.mem_cons.1 h with h | h
  ·exact .inl h
  ·exact .inr (List.mem_of_mem_drop h)
theorem leaf_ok {z:Lf} (h:LOk z):BOk (leafV z).pre:=h.1
theorem rndA_ok {l:List Lf} (h:AllL l):∀i,i≤l.length→∀x∈rndA l i,BOk x.pre
 | 0,_,x,hx=>by cases hx
 | i+1,hi,x,hx=>by
  rcases mem_insV hx with rfl | hx
  ·exact leaf_ok (h.at (by omega))
  ·exact rndA_ok h i (by omega) x hx
theorem putN (L ys:List Nd) (a:Nat):putV (a*65) (ah ys) (ah L)=ah (L.take a++(ys++L.drop (a+ys.length))):=by
 unfold putV
 rw[nvals_take,aV,←Nat.add_mul,nvals_drop,nvals_app,nvals_app]
theorem ins_cp (out:List Nd) (k R:Nat) (hk:k≤out.length) (hR:out.length+1≤R):
  putV (0+advS R (k+1) 0 65) ((((ah (out++[zn])).drop (0+advS R k 0 65)).take ((out.length+1-k)*65)).take (Nat.min (out.length+1-k) (out.length+1-(k+1))*65)) (ah (out++[zn]))=ah ((out++[zn]).take (k+1)++out.drop k):=by
 have hm:Nat.min (out.length+1-k) (out.length+1-(k+1))=out.length-k:=by
  show min _ _=_
  omega
 have ha:0+advS R k 0 65=k*65:=by unfold advS;rw[if_neg (by omega)];omega
 rw[hm,ha,nvals_drop,nvals_take,nvals_take]
 have hl:(out++[zn]).length=out.length+1:=by simp
 have e1:(((out++[zn]).drop k).take (out.length+1-k)).take (out.length-k)=out.drop k:=by
  rw[List.take_take,List.drop_append_of_le_length hk,List.take_append_of_le_length (by rw[List.length_drop];omega),List.take_of_length_le (by rw[List.length_drop];omega)]
 rw[e1]
 by_cases hR2:R=k+1
 ·obtain rfl:k=out.length:=by omega
  have ha1:0+advS R (out.length+1) 0 65=0*65:=by unfold advS;rw[if_pos hR2]
  rw[ha1,putN,List.take_zero,List.nil_append,List.drop_length,List.length_nil,List.nil_append,List.drop_zero,List.append_nil,List.take_of_length_le (by omega)]
 ·have ha1:0+advS R (k+1) 0 65=(k+1)*65:=by unfold advS;rw[if_neg hR2];omega
  rw[ha1,putN,List.drop_eq_nil_of_le (show(out++[zn]).length≤k+1+(out.drop k).length by rw[hl,List.length_drop];omega),List.append_nil]
theorem ins_put (out:List Nd) (x:Nd) (k R:Nat) (hk:k≤out.length) (hR:out.length+1≤R):
  putV (0+offI 0 (k:Int) 65) x.vals (ah ((out++[zn]).take (k+1)++out.drop k))=ah (out.take k++x::out.drop k):=by
 have hl:(out++[zn]).length=out.length+1:=by simp
 have ht:((out++[zn]).take (k+1)).length=k+1:=by rw[List.length_take];omega
 rw[offs,←nvals_one,putN,List.take_append_of_le_length (by omega),List.take_take,show min k (k+1)=k by omega,List.take_append_of_le_length hk]
 rw[List.drop_append,List.drop_eq_nil_of_le (by rw[ht];exact Nat.le_refl _),List.nil_append,ht,show k+[x].length-(k+1)=0 from Nat.sub_self _,List.drop_zero]
 rfl
namespace rnd
section
variable (l:List Lf) (n c:Nat) (ty:TypeId) (out:List Nd) (x:Nd) (i:Int)
theorem tail (k:Nat) (hk:k≤out.length) (hb:out.length<4000000) (g:Nat→SV) {Post:Ex→List SV→List Blk→Prop} (h:∀g R,out.length+1≤R→Post .normal (fill g 0 (MUs n c i (out.length+1) R)) (ms l ty (ah (out.take k++x::out.drop k)) R (some (R+1)))):
  aC Tryd.prog GT 1 T (fill g 0 (MBs n c i (out.length+1) k)) (mx l ty (ah (out++[zn])) (out.length+1) none x) Post:=by
 refine Runs.nameRoom 4 1 (n:=out.length+1) (own:=true) (ty:=33) (s:=65) (vs:=ah (out++[zn])) (lo:=out.length+1) (hi:=none) rfl rfl fun R hR hle=> ?_
 have hl:(ah (out++[zn])).length=(out.length+1)*65:=by rw[aV];simp
 rw[setT n c i (out.length+1) k R g]
 have hcp:=ins_cp out k R hk hR
 have hput:=ins_put out x k R hk hR
 have ha:0+advS R k 0 65=k*65:=by unfold advS;rw[if_neg (by omega)];omega
 have ha1:0+advS R (k+1) 0 65+Nat.min (out.length+1-k) (out.length+1-(k+1))*65≤(out.length+1)*65:=by
  have hm:Nat.min (out.length+1-k) (out.length+1-(k+1))=out.length-k:=by
   show min _ _=_
   omega
  rw[hm]
  unfold advS
  split
  ·omega
  ·omega
 refine Runs.aH aj mixed [0,1] (tt l n c ty (ah (out++[zn])) i (out.length+1) k ((k+1:Nat):Int) R x g) ⟨by rw[IntKind.wrap_i64];omega,by omega,by omega,by omega,by omega,by omega,by omega,?_,?_,?_,by omega,by omega,?_,trivial⟩ (iUs l n c ty _ _ _ _ _ _) rfl fun g=> ?_
 ·rw[hl]
  show 0+advS R k 0 65+(out.length+1-k)*65≤_
  rw[ha]
  omega
 ·rw[hl]
  exact ha1
 ·intro v hv
  exact oneL _ v (List.mem_of_mem_drop (List.mem_of_mem_take hv))
 ·show 0+offI 0 (k:Int) 65+65≤(putV (0+advS R (k+1) 0 65) ((((ah (out++[zn])).drop (0+advS R k 0 65)).take ((out.length+1-k)*65)).take (Nat.min (out.length+1-k) (out.length+1-(k+1))*65)) (ah (out++[zn]))).length
  rw[hcp,offs,aV,List.length_append,List.length_take,List.length_drop,List.length_append,List.length_singleton]
  omega
 ·have e:putV (0+offI 0 (k:Int) 65) x.vals (putV (0+advS R (k+1) 0 65) ((((ah (out++[zn])).drop (0+advS R k 0 65)).take ((out.length+1-k)*65)).take (Nat.min (out.length+1-k) (out.length+1-(k+1))*65)) (ah (out++[zn])))=ah (out.take k++x::out.drop k):=by rw[hcp,hput]
  have:=h g R hR
  rw[←e] at this
  exact this
theorem append (k:Nat) (hk:k≤out.length) (h1:1≤out.length) (hb:out.length<4000000) (g:Nat→SV) {Post:Ex→List SV→List Blk→Prop} (h:∀g R,out.length+1≤R→Post .normal (fill g 0 (MUs n c i (out.length+1) R)) (ms l ty (ah (out.take k++x::out.drop k)) R (some (R+1)))):
  aC Tryd.prog GT 1 (.seq R11 T) (fill g 0 (MBs n c i out.length k)) (mx l ty (ah out) out.length none x) Post:=by
 have hl:(ah out).length=out.length*65:=aV out
 have e:ah out++zn.vals=ah (out++[zn]):=by rw[nvals_app,nvals_one]
 refine Runs.roomV 1 (out.length+1) (own:=true) (ty:=33) (s:=65) (vs:=ah out) (lo:=out.length) rfl ?_ ?_
 ·refine Runs.seq (Runs.aA aj mixed (apg l n c ty (ah out) i out.length k x g) ⟨rfl,by omega,by omega,Nat.le_refl _,oneV zn,trivial⟩ (iBs l n c ty _ _ _ _ _ _ _) rfl fun g=> ?_)
  rw[e]
  exact tail l n c ty out x i k hk hb g h
 ·refine Runs.seq (Runs.aH aj mixed [0,4,2] (apr l n c ty (ah out) out.length i out.length k x g) ⟨rfl,by omega,by omega,Nat.le_refl _,roomN _ (by omega),trivial⟩ (iBs l n c ty _ _ _ _ _ _ _) rfl fun g=> ?_)
  rw[e]
  exact tail l n c ty out x i k hk hb g h
theorem turnE (k:Nat) (hk:k≤out.length) (h1:1≤out.length) (hb:out.length<4000000) (g:Nat→SV) {Post:Ex→List SV→List Blk→Prop} (hd:dupK out x k=true→∀g,Post .ret (fill g 0 (MRd)) (mx l ty (ah out) out.length none x)) (h:dupK out x k=false→∀g R,out.length+1≤R→Post .normal (fill g 0 (MUs n c i (out.length+1) R)) (ms l ty (ah (out.take k++x::out.drop k)) R (some (R+1)))):
  aC Tryd.prog GT 1 (.seq E (.seq R11 T)) (fill g 0 (MBs n c i out.length k)) (mx l ty (ah out) out.length none x) Post:=by
 cases k with
 | zero=>exact Runs.seq (Runs.aA aj mixed (e0 l n c ty _ _ _ i out.length _ x g) ⟨decide_eq_false (by omega),trivial⟩ (iBs l n c ty _ _ _ _ _ _ _) rfl fun g=>append l n c ty out x i 0 hk h1 hb g (h rfl))
 | succ k=>
  obtain⟨a1,a2⟩:=ld_off out rfl (show k<out.length by omega)
  have hw:IntKind.i64.wrap (((k+1:Nat):Int)-1)=(k:Int):=by rw[IntKind.wrap_i64];omega
  cases hq:eqL (out.getD k zn).pre.to x.pre.to with
  | false=>exact Runs.seq (Runs.aA aj mixed (en l n c ty _ _ _ i out.length _ x k (out.getD k zn).pre g) ⟨decide_eq_true (by omega),hw,by omega,by omega,a1,a2,hq,trivial⟩ (iBs l n c ty _ _ _ _ _ _ _) rfl fun g=>append l n c ty out x i (k+1) hk h1 hb g (h hq))
  | true=>exact Runs.seq (Runs.aA aj mixed (ed l n c ty _ _ _ i out.length _ x k (out.getD k zn).pre g) ⟨decide_eq_true (by omega),hw,by omega,by omega,a1,a2,hq,trivial⟩ (iRd l ty _ _ _ _) rfl fun g=>hd hq g)
theorem inner (h1:1≤out.length) (hb:out.length<4000000) (hx:BOk x.pre) (ho:∀y∈out,BOk y.pre) (g:Nat→SV) {Post:Ex→List SV→List Blk→Prop} (hd:dupV out x=true→∀g,Post .ret (fill g 0 (MRd)) (mx l ty (ah out) out.length none x)) (h:dupV out x=false→∀g R,out.length+1≤R→Post .normal (fill g 0 (MUs n c i (out.length+1) R)) (ms l ty (ah (insV out x)) R (some (R+1)))):
  aC Tryd.prog GT 1 (csuf 3 X) (fill g 0 (MBs n c i out.length out.length)) (mx l ty (ah out) out.length none x) Post:=by
 rw[suf_X]
 unfold dupV at hd h
 unfold insV at h
 have fin:∀(k:Nat) (g:Nat→SV),k≤out.length→insK out x out.length=k→aC Tryd.prog GT 1 (.seq E (.seq R11 T)) (fill g 0 (MBs n c i out.length k)) (mx l ty (ah out) out.length none x) Post:=fun k g hk hv=>by
  rw[hv] at hd h
  exact turnE l n c ty out x i k hk h1 hb g hd h
 refine Runs.seq (Runs.block ?_)
 refine Runs.bn (fun(k:Nat)=>MBs n c i out.length k) (fun _=>mx l ty (ah out) out.length none x) (fun k=>k≤out.length∧insK out x out.length=insK out x k) (fun k=>k) ?_ out.length ⟨Nat.le_refl _,rfl⟩ g
 rintro k g ⟨hk,hv⟩
 cases k with
 | zero=>
  refine Runs.aA aj mixed (in0 l n c ty _ _ _ i out.length _ x g) ⟨decide_eq_false (by omega),trivial⟩ (iBs l n c ty _ _ _ _ _ _ _) rfl fun g=> ?_
  exact fin 0 g hk (by rw[hv];rfl)
 | succ k=>
  obtain⟨a1,a2⟩:=ld_off out rfl (show k<out.length by omega)
  have hw:IntKind.i64.wrap (((k+1:Nat):Int)-1)=(k:Int):=by rw[IntKind.wrap_i64];omega
  have hy:=ho (out.getD k zn) (getD_mem (by omega) _)
  cases hq:ltV x.pre (out.getD k zn).pre with
  | false=>
   refine Runs.aA aj mixed (inx l n c ty _ _ _ i out.length _ x k (out.getD k zn).pre g) ⟨decide_eq_true (by omega),hw,by omega,by omega,a1,a2,hx,hy,by rw[hq],trivial⟩ (iBs l n c ty _ _ _ _ _ _ _) rfl fun g=> ?_
   exact fin (k+1) g hk (by rw[hv,insK,hq,cond_false])
  | true=>
   refine Runs.aA aj mixed (ing l n c ty _ _ _ i out.length _ x k (out.getD k zn).pre g) ⟨decide_eq_true (by omega),hw,by omega,by omega,a1,a2,hx,hy,by rw[hq],hw,trivial⟩ (iBs l n c ty _ _ _ _ _ _ _) rfl fun g=> ?_
   exact⟨k,g,rfl,rfl,⟨by omega,by rw[hv,insK,hq,cond_true]⟩,by omega⟩
end
def MA (n c:Nat):Nat→List (Option SV)
 | 0=>MAz n c
 | i+1=>MAs n c ((i+1:Nat):Int) (i+1)
noncomputable def mA (l:List Lf) (ty:TypeId):Nat→List Blk
 | 0=>m0 l ty
 | i+1=>ms l ty (ah (rndA l (i+1))) (i+1) none
noncomputable def Q (l:List Lf) (n:Nat) (r:SV) (m:List Blk):Prop:=
 (rndD l n=true∧aT (.t [.a (.v (.slice none 0 0)),.a (.v (.bool false))]) .none r m)∨(rndD l n=false∧n=0∧aT (.t [.a (.v (.slice none 0 0)),.a (.v (.bool true))]) .none r m)∨
  (rndD l n=false∧0<n∧aT (.t [.a (.slg 0 n),.a (.v (.bool true))]) (.new 33 (.grv 65 (ah (rndA l n)) n none)) r m)
theorem run (l:List Lf) (n c:Nat) (ty:TypeId) (hn:l.length=n) (hm:n≤4000000) (hok:AllL l):aC Tryd.prog GT 1 body (aI fn [.o (.a (.sld 0 0 0 n c))]) [⟨false,ty,.prv (lvals l)⟩] (aF tys fn (Q l n)):=by
 have hl:(lvals l).length=n*64:=by rw[←hn];exact aU l
 refine Runs.aW aj mixed 2 (s0 l n c ty) trivial (i0 l n c ty) rfl fun g=> ?_
 rw[bN]
 refine Runs.seq (Runs.seq (Runs.aA aj mixed (a1 l n c ty g) trivial (iAz l n c ty) rfl fun g=> ?_))
 refine Runs.block ?_
 refine Runs.bn (fun(i:Nat)=>MA n c i) (fun i=>mA l ty i) (fun i=>i≤n∧rndD l i=false) (fun i=>n-i) ?_ 0 ⟨Nat.zero_le _,rfl⟩ g
 rintro i g ⟨hi,hd⟩
 rcases Nat.lt_or_ge i n with h | h
 ·have o64:=offs i 64
  have hb:i*64+64≤n*64:=by have:=Nat.mul_le_mul_right 64 (show i+1≤n by omega);omega
  have hz:=hok.at (show i<l.length by omega)
  cases i with
  | zero=>
   refine Runs.aW aj mixed 2 (hdz l n c ty g) ⟨decide_eq_true (by omega),trivial⟩ (iAz l n c ty) rfl fun g=> ?_
   rw[suf_L]
   refine Runs.seq (Runs.block ?_)
   refine Runs.aW aj mixed 3 (lfz l n c ty (l.getD 0 zl) (leafV (l.getD 0 zl)) g) ⟨by omega,by omega,by show 0+offI 0 ((0:Nat):Int) 64+64≤_;rw[o64];omega,by show SV.o (.g (aY (lvals l) (0+offI 0 ((0:Nat):Int) 64) 64))=_;rw[o64];exact ld_lf l (by omega),hz,rfl,trivial⟩ (iBz l n c ty _) rfl fun g=> ?_
   rw[suf_X]
   refine Runs.seq (Runs.block ?_)
   refine Runs.bn (fun(_:Unit)=>MBz n c) (fun _=>mz l ty (leafV (l.getD 0 zl))) (fun _=>True) (fun _=>0) ?_ () trivial g
   rintro _ g _
   refine Runs.aA aj mixed (inz l n c ty _ g) trivial (iBz l n c ty _) rfl fun g=> ?_
   show aC _ _ _ _ _ _ _
   refine Runs.seq (Runs.aA aj mixed (ez l n c ty _ g) trivial (iBz l n c ty _) rfl fun g=> ?_)
   refine Runs.seq (Runs.aH aj mixed [0,3,1] (apz l n c ty _ g) ⟨rfl,by omega,by omega,roomN 1 (by omega),trivial⟩ (iBs l n c ty _ _ _ _ _ _ _) rfl fun g=> ?_)
   refine tail l n c ty [] (leafV (l.getD 0 zl)) 0 0 (Nat.le_refl _) (by simp) g fun g R hR=> ?_
   show aC _ _ _ R14 _ _ _
   refine Runs.hideRoom 4 1 1 (n:=1) (R:=R) (own:=true) (ty:=33) (s:=65) rfl rfl (by simpa using hR) ?_
   show aC _ _ _ R14 ((fill g 0 (MUs n c 0 1 R)).set 4 _) _ _
   rw[setU n c 0 1 R g]
   refine Runs.aA aj mixed (nx l n c ty _ _ _ 0 1 1 g) ⟨by rw[IntKind.wrap_i64];rfl,trivial⟩ (iAs l n c ty _ 1 none _ _) rfl fun g=> ?_
   exact⟨1,g,rfl,rfl,⟨by omega,rfl⟩,by omega⟩
  | succ i=>
   have hlen:=rndA_len l (i+1)
   have hoks:=rndA_ok hok (i+1) (by omega)
   refine Runs.aW aj mixed 2 (hds l n c ty _ _ _ _ _ g) ⟨decide_eq_true (by omega),trivial⟩ (iAs l n c ty _ _ _ _ _) rfl fun g=> ?_
   rw[suf_L]
   refine Runs.seq (Runs.block ?_)
   refine Runs.aW aj mixed 3 (lfs l n c ty _ _ _ _ _ (l.getD (i+1) zl) (leafV (l.getD (i+1) zl)) g) ⟨by omega,by omega,by rw[o64];omega,by rw[o64];exact ld_lf l (by omega),hz,rfl,trivial⟩ (iBs l n c ty _ _ _ _ _ _ _) rfl fun g=> ?_
   have hx:=leaf_ok hz
   have hA:rndA l (i+1+1)=insV (rndA l (i+1)) (leafV (l.getD (i+1) zl)):=rfl
   have hD:rndD l (i+1+1)=(rndD l (i+1)||dupV (rndA l (i+1)) (leafV (l.getD (i+1) zl))):=rfl
   rw[hd,Bool.false_or] at hD
   have t:=fun PP=>inner l n c ty (rndA l (i+1)) (leafV (l.getD (i+1) zl)) ((i+1:Nat):Int) (by omega) (by omega) hx hoks g (Post:=PP)
   rw[hlen] at t
   refine t _ (fun hq g=> ?_) (fun hq g R hR=> ?_)
   ·show aF _ _ _ _ _ _
    exact aF.ret (zd l ty _ _ _ _ g) (.inl ⟨rndD_mono (hD.trans hq) (by omega),rfl⟩)
   ·show aC _ _ _ R14 _ _ _
    refine Runs.hideRoom 4 1 (i+1+1) (n:=i+1+1) (R:=R) (own:=true) (ty:=33) (s:=65) rfl rfl hR ?_
    show aC _ _ _ R14 ((fill g 0 (MUs n c ((i+1:Nat):Int) (i+1+1) R)).set 4 _) _ _
    rw[setU n c _ _ R g,←hA]
    refine Runs.aA aj mixed (nx l n c ty _ _ _ _ (i+1+1) ((i+1+1:Nat):Int) g) ⟨by rw[IntKind.wrap_i64];omega,trivial⟩ (iAs l n c ty _ (i+1+1) none _ _) rfl fun g=> ?_
    exact⟨i+1+1,g,rfl,rfl,⟨by omega,hD.trans hq⟩,by omega⟩
 ·obtain rfl:i=n:=by omega
  cases i with
  | zero=>
   refine Runs.aA aj mixed (otz l 0 c ty g) ⟨decide_eq_false (by omega),trivial⟩ (iDz l ty) rfl fun g=> ?_
   show aC _ _ _ _ _ _ _
   exact Runs.aA aj mixed (fz l ty g) trivial (iRz l ty) rfl fun g=>aF.ret (zz l ty g) (.inr (.inl ⟨hd,rfl,rfl⟩))
  | succ i=>
   refine Runs.aA aj mixed (ots l (i+1) c ty _ _ _ _ _ g) ⟨decide_eq_false (by omega),trivial⟩ (iDs l ty _ _ _ _) rfl fun g=> ?_
   show aC _ _ _ _ _ _ _
   exact Runs.aA aj mixed (fs l ty _ _ _ _ g) trivial (iRs l ty _ _ _ _) rfl fun g=>aF.ret (zs l ty _ _ _ _ g) (.inr (.inr ⟨hd,by omega,1,rfl,rfl⟩))
theorem nil_out (a:Option Addr):runOut Γ tys fn 300 [.o (.a (.v (.slice a 0 0)))] []=some (.t [.a (.v (.slice none 0 0)),.a (.v (.bool true))],[]):=by kernel_rfl
noncomputable def specE:List PArg→Option (SV × LEff × Cst)
 | [.winv _ vs n ty]=>some (.t [.a (.v (.slice none 0 0)),.a (.v (.bool false))],.none,[vs=lvals (ak vs),(ak vs).length=n,n≤4000000,AllL (ak vs),rndD (ak vs) n=true])
 | _=>none
noncomputable def specZ:List PArg→Option (SV × LEff × Cst)
 | [.winv _ vs n ty]=>some (.t [.a (.v (.slice none 0 0)),.a (.v (.bool true))],.none,[vs=lvals (ak vs),(ak vs).length=n,n=0])
 | [.val (.o (.a (.v (.slice a 0 0))))]=>some (.t [.a (.v (.slice none 0 0)),.a (.v (.bool true))],.none,[])
 | _=>none
noncomputable def specP:List PArg→Option (SV × LEff × Cst)
 | [.winv _ vs n ty]=>some (.t [.a (.slg 0 n),.a (.v (.bool true))],.new 33 (.grv 65 (ah (rndA (ak vs) n)) n none),[vs=lvals (ak vs),(ak vs).length=n,n≤4000000,AllL (ak vs),rndD (ak vs) n=false,0<n])
 | _=>none
noncomputable def conE:Con Tryd.prog GT:=Con.parts aj 24 fn Tryd.func24 (by kernel_rfl) (c:=body) (by kernel_rfl) [.winv 64] specE
 (fun ps r e p h hp=>by
  unfold specE at h
  split at h<;>cases h
  exact⟨rfl,fun b hb=>by simp only[aR,PArg.blk,List.append_nil,List.nil_append,List.mem_singleton] at hb;rw[hb]⟩)
 (fun ps r e p cap h hp hi=>by
  unfold specE at h
  split at h<;>cases h
  rename_i s vs n ty
  obtain⟨p1,p2,p3,p4,p5,_⟩:=hp
  have q:=run (ak vs) n (cap 0) ty p2 p3 p4
  rw[←p1] at q
  refine Runs.mono q fun e t m=>bJ fun r m h=> ?_
  rcases h with⟨_,h⟩ | ⟨h',_⟩ | ⟨h',_⟩
  ·exact h
  ·rw[p5] at h';cases h'
  ·rw[p5] at h';cases h')
noncomputable def conZ:Con Tryd.prog GT:=Con.parts aj 24 fn Tryd.func24 (by kernel_rfl) (c:=body) (by kernel_rfl) [.winv 64] specZ
 (fun ps r e p h hp=>by
  unfold specZ at h
  split at h<;>cases h
  ·exact⟨rfl,fun b hb=>by simp only[aR,PArg.blk,List.append_nil,List.nil_append,List.mem_singleton] at hb;rw[hb]⟩
  ·exact⟨rfl,fun b hb=>by simp[aR,PArg.blk] at hb⟩)
 (fun ps r e p cap h hp hi=>by
  unfold specZ at h
  split at h<;>cases h
  ·rename_i s vs n ty
   obtain⟨p1,p2,p3,_⟩:=hp
   subst p3
   have h0:ak vs=[]:=List.eq_nil_of_length_eq_zero p2
   have q:=run (ak vs) 0 (cap 0) ty p2 (by omega) (by rw[h0];intro x hx;cases hx)
   rw[←p1] at q
   refine Runs.mono q fun e t m=>bJ fun r m h=> ?_
   rcases h with⟨h',_⟩ | ⟨_,_,h⟩ | ⟨_,h',_⟩
   ·cases h'
   ·exact h
   ·omega
  ·exact runs_of_out1 aj mixed (by kernel_rfl) (nil_out _) trivial)
noncomputable def conP:Con Tryd.prog GT:=Con.parts aj 24 fn Tryd.func24 (by kernel_rfl) (c:=body) (by kernel_rfl) [.winv 64] specP
 (fun ps r e p h hp=>by
  unfold specP at h
  split at h<;>cases h
  exact⟨rfl,fun b hb=>by simp only[aR,PArg.blk,List.append_nil,List.nil_append,List.mem_singleton] at hb;rw[hb]⟩)
 (fun ps r e p cap h hp hi=>by
  unfold specP at h
  split at h<;>cases h
  rename_i s vs n ty
  obtain⟨p1,p2,p3,p4,p5,p6,_⟩:=hp
  have q:=run (ak vs) n (cap 0) ty p2 p3 p4
  rw[←p1] at q
  refine Runs.mono q fun e t m=>bJ fun r m h=> ?_
  rcases h with⟨h',_⟩ | ⟨_,h',_⟩ | ⟨_,_,h⟩
  ·rw[p5] at h';cases h'
  ·omega
  ·exact h)
end rnd
end Go.Proofs.YtdccehmekkcheaaDoor

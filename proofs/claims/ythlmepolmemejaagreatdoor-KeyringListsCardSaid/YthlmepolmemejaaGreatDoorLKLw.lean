/- The law KeyringLists: run (at least one certificate). -/
import Derived.Test.YthlmepolmemejaaGreatDoorLKLm
set_option linter.unusedSimpArgs false
set_option linter.unusedVariables false
namespace Go.Proofs.YthlmepolmemejaaGreatDoor
open Go Go.Eng Go.RowKit
set_option maxRecDepth 100000
theorem oneCs (l:List Cert):∀v∈aA l,v.oneCell'=true:=fun v hv=>by
 obtain⟨c,_,h⟩:=List.mem_flatMap.1 hv
 exact oneC c v h
theorem b0_ok {b:B32} (h:BOk b) (x:Int):BOk { b with b0:=IntKind.u8.wrap x }:=fun i=>by
 have hi:=h i
 match i with
 | 0=>exact(by rw[IntKind.wrap_u8];constructor<;>omega:0≤IntKind.u8.wrap x∧IntKind.u8.wrap x<256)
 | 1=>exact hi
 | 2=>exact hi
 | 3=>exact hi
 | 4=>exact hi
 | 5=>exact hi
 | 6=>exact hi
 | 7=>exact hi
 | 8=>exact hi
 | 9=>exact hi
 | 10=>exact hi
 | 11=>exact hi
 | 12=>exact hi
 | 13=>exact hi
 | 14=>exact hi
 | 15=>exact hi
 | 16=>exact hi
 | 17=>exact hi
 | 18=>exact hi
 | 19=>exact hi
 | 20=>exact hi
 | 21=>exact hi
 | 22=>exact hi
 | 23=>exact hi
 | 24=>exact hi
 | 25=>exact hi
 | 26=>exact hi
 | 27=>exact hi
 | 28=>exact hi
 | 29=>exact hi
 | 30=>exact hi
 | 31=>exact hi
 | i+32=>exact hi
namespace lkl
namespace mu
theorem set_r (ep:Int) (at_ wh:Int) (q:Nat) (R:Nat) (g:Nat→SV):(fill g 0 (M3 ep at_ wh q)).set 12 (.o (.a (.sld 2 0 0 q R)))=fill g 0 (M3r ep at_ wh q R):=by kernel_rfl
theorem set_h (ep:Int) (n R:Nat) (g:Nat→SV):(fill g 0 (M5r ep n R)).set 12 (.o (.a (.slg 2 n)))=fill g 0 (M5 ep n):=by kernel_rfl
theorem done (V:Keys→Cert→Int) (hV:V=ccV) (S:List B32) (ty:TypeId) (E:List Int) (ty':TypeId) (F:Keys) (ep:Int) (at_ wh:Int) (q:Nat) (l:List Cert) (n:Nat) (us:List Value) (lo:Nat) (hu:n*130≤us.length) (hlo:n≤lo) (hsg:BOk F.sg) (hz:us.take (n*130)=aA l) (hlen:l.length=n) (hb:n≤1000000) (hc:∀i,i<n→COk (l.getD i zc)) (g:Nat→SV):
  aK Tryz.prog G3 2 B18 (fill g 0 (M5 ep n)) (m S ty E ty' F ep at_ wh q us lo none) (aN tys fn (bA (aY.enc true) .none)):=by
 have hz:(us.drop (0+0)).take (n*130)=aA l:=by rw[Nat.add_zero,List.drop_zero];exact hz
 by_cases h0:n=0
 ·subst h0
  exact z.run V hV S ty E ty' F ep us lo hsg g
 ·by_cases he:gT V l F n=0
  ·exact p.run V hV S ty E ty' F ep l n us lo hu hlo hsg hz hlen hb hc he (by omega) g
  ·exact e.run V hV S ty E ty' F ep l n us lo hu hlo hsg hz hlen hb hc he (by omega) g
theorem tmod_nat {u:Int} (hu:0≤u) {k:Nat} (hk:0<k):∃r:Nat,u.tmod (k:Int)=(r:Int)∧r<k:=by
 obtain⟨x,rfl⟩:=Int.eq_ofNat_of_zero_le hu
 exact⟨x%k,by rw[←Int.ofNat_tmod],Nat.mod_lt _ hk⟩
theorem go (V:Keys→Cert→Int) (hV:V=ccV) (S:List B32) (ty:TypeId) (E:List Int) (ty':TypeId) (F:Keys) (ep:Int) (at_ wh:Int) (q:Nat) (l:List Cert) (hlen:l.length=q) (h0:0<q) (hq:q≤5) (hc:∀i,i<q→COk (l.getD i zc)) (hsg:BOk F.sg) (hep:U64 ep) (g:Nat→SV):
  aK Tryz.prog G3 2 (bY 3 body) (fill g 0 (M3 ep at_ wh q)) (m S ty E ty' F ep at_ wh q (aA l) q none) (aN tys fn (bA (aY.enc true) .none)):=by
 have hcl:(aA l).length=q*130:=by rw[iX,hlen]
 have hu0:0≤IntKind.u64.wrap at_:=by rw[IntKind.wrap_u64];omega
 have hu2:0≤IntKind.u64.wrap wh:=by rw[IntKind.wrap_u64];omega
 have hqw:IntKind.u64.wrap (q:Int)=(q:Int):=by rw[IntKind.wrap_u64];omega
 obtain⟨r,hr,hrq⟩:=tmod_nat hu0 h0
 obtain⟨k,hk,hk6⟩:=tmod_nat hu2 (show 0<6 by omega)
 have hk:(IntKind.u64.wrap wh).tmod 6=(k:Int):=hk
 have hrw:IntKind.i64.wrap (r:Int)=(r:Int):=by rw[IntKind.wrap_i64];omega
 have hkw:IntKind.i64.wrap (k:Int)=(k:Int):=by rw[IntKind.wrap_i64];omega
 have hrl:r<l.length:=by omega
 have hgt:decide ((q:Int)>0)=true:=decide_eq_true (by omega)
 have hq0:(q:Int)≠0:=by omega
 have hrm:SV.o (.a (aB .u64 ((IntKind.u64.wrap at_).tmod (q:Int))))= .o (.a (aB .u64 (r:Int))):=by rw[hr]
 have o:=lT r 130
 have hrb:r*130+130≤q*130:=by have:=Nat.mul_le_mul_right 130 (show r+1≤q by omega);omega
 have hcr:=hc r hrq
 rw[body3]
 obtain rfl | rfl | rfl | rfl | rfl | rfl:k=0∨k=1∨k=2∨k=3∨k=4∨k=5:=by omega
 ·have e:0+(aP 0 (r:Int) 130+65)=r*130+65:=by omega
  have hz:iF (0+(aP 0 (r:Int) 130+65)) [.int .u64 ep] (aA l)=aA (l.set r (cEp (l.getD r zc) ep)):=by rw[e];exact put_at l hrl 65 _ _ (by show 65+1≤130;omega) (ep_put _ _)
  have qc:=c0 S ty E ty' F ep at_ wh q (aA l) q none (IntKind.u64.wrap at_) (q:Int) (r:Int) (r:Int) (IntKind.u64.wrap wh) ((0:Nat):Int) g
  rw[hz] at qc
  have hc':=set_cok hc hrl (c:=cEp (l.getD r zc) ep) (⟨hcr.1,hep,hcr.2.2⟩)
  have hl':(l.set r (cEp (l.getD r zc) ep)).length=q:=by rw[List.length_set];exact hlen
  refine Runs.seq (Runs.au ah mixed qc ⟨hgt,rfl,hqw,hq0,hrm,hrw,rfl,hk,hkw,by omega,by omega,by rw[e,hcl];omega,trivial⟩ (i5 S ty E ty' F ep at_ wh q _ _ _ _) rfl fun g=> ?_)
  exact done V hV S ty E ty' F ep at_ wh q _ q _ q (by rw[iX,hl'];omega) (Nat.le_refl _) hsg (List.take_of_length_le (by rw[iX,hl'];omega)) hl' (by omega) hc' g
 ·have e:0+aP (aP 0 (r:Int) 130+66) 5 1=r*130+71:=by simp[lN]<;>omega
  have hz:iF (0+aP (aP 0 (r:Int) 130+66) 5 1) [.int .u8 (IntKind.u8.wrap ((l.getD r zc).sig.b5+1))] (aA l)=aA (l.set r (cSig (l.getD r zc) (IntKind.u8.wrap ((l.getD r zc).sig.b5+1)))):=by rw[e];exact put_at l hrl 71 _ _ (by show 71+1≤130;omega) (sig_put _ _)
  have hx:SV.o (.a (.v ((aA l).getD (0+aP (aP 0 (r:Int) 130+66) 5 1) undef)))= .o (.a (aB .u8 (l.getD r zc).sig.b5)):=by rw[e,wW Cert.fE l zc 71 hrl (by omega)];rfl
  have qc:=c1 S ty E ty' F ep at_ wh q (aA l) q none (IntKind.u64.wrap at_) (q:Int) (r:Int) (r:Int) (IntKind.u64.wrap wh) ((1:Nat):Int) (l.getD r zc).sig.b5 (IntKind.u8.wrap ((l.getD r zc).sig.b5+1)) g
  rw[hz] at qc
  have hc':=set_cok hc hrl (c:=cSig (l.getD r zc) (IntKind.u8.wrap ((l.getD r zc).sig.b5+1))) (⟨hcr.1,hcr.2.1,hcr.2.2⟩)
  have hl':(l.set r (cSig (l.getD r zc) (IntKind.u8.wrap ((l.getD r zc).sig.b5+1)))).length=q:=by rw[List.length_set];exact hlen
  refine Runs.seq (Runs.au ah mixed qc ⟨hgt,rfl,hqw,hq0,hrm,hrw,rfl,hk,hkw,by omega,by omega,by decide,by decide,by rw[e,hcl];omega,hx,rfl,by omega,by omega,by decide,by decide,by rw[e,hcl];omega,trivial⟩ (i5 S ty E ty' F ep at_ wh q _ _ _ _) rfl fun g=> ?_)
  exact done V hV S ty E ty' F ep at_ wh q _ q _ q (by rw[iX,hl'];omega) (Nat.le_refl _) hsg (List.take_of_length_le (by rw[iX,hl'];omega)) hl' (by omega) hc' g
 ·have e:0+(aP 0 (r:Int) 130+0+0)=r*130+0:=by omega
  have hz:iF (0+(aP 0 (r:Int) 130+0+0)) [.int .u64 (IntKind.u64.wrap ((l.getD r zc).k.gen+1))] (aA l)=aA (l.set r (cGen (l.getD r zc) (IntKind.u64.wrap ((l.getD r zc).k.gen+1)))):=by rw[e];exact put_at l hrl 0 _ _ (by show 0+1≤130;omega) (gen_put _ _)
  have hx:SV.o (.a (.v ((aA l).getD (0+(aP 0 (r:Int) 130+0+0)) undef)))= .o (.a (aB .u64 (l.getD r zc).k.gen)):=by rw[e,wW Cert.fE l zc 0 hrl (by omega)];rfl
  have qc:=c2 S ty E ty' F ep at_ wh q (aA l) q none (IntKind.u64.wrap at_) (q:Int) (r:Int) (r:Int) (IntKind.u64.wrap wh) ((2:Nat):Int) (l.getD r zc).k.gen (IntKind.u64.wrap ((l.getD r zc).k.gen+1)) g
  rw[hz] at qc
  have hc':=set_cok hc hrl (c:=cGen (l.getD r zc) (IntKind.u64.wrap ((l.getD r zc).k.gen+1))) (⟨⟨by show 0≤IntKind.u64.wrap _∧IntKind.u64.wrap _<_;rw[IntKind.wrap_u64];omega,hcr.1.2⟩,hcr.2⟩)
  have hl':(l.set r (cGen (l.getD r zc) (IntKind.u64.wrap ((l.getD r zc).k.gen+1)))).length=q:=by rw[List.length_set];exact hlen
  refine Runs.seq (Runs.au ah mixed qc ⟨hgt,rfl,hqw,hq0,hrm,hrw,rfl,hk,hkw,by omega,by omega,by rw[e,hcl];omega,hx,rfl,by omega,by omega,by rw[e,hcl];omega,trivial⟩ (i5 S ty E ty' F ep at_ wh q _ _ _ _) rfl fun g=> ?_)
  exact done V hV S ty E ty' F ep at_ wh q _ q _ q (by rw[iX,hl'];omega) (Nat.le_refl _) hsg (List.take_of_length_le (by rw[iX,hl'];omega)) hl' (by omega) hc' g
 ·refine Runs.nameRoom 12 2 (n:=q) (own:=true) (ty:=39) (s:=130) (vs:=aA l) (lo:=q) (hi:=none) rfl rfl fun R hR hvs=> ?_
  rw[set_r]
  have hsrc:((aA l).drop (0+advS R ((r+1:Nat):Int).toNat 0 130)).take ((q-((r+1:Nat):Int).toNat)*130)=(aA l).drop ((r+1)*130):=by
   show((aA l).drop (0+advS R (r+1) 0 130)).take ((q-(r+1))*130)=_
   unfold advS
   rcases Nat.lt_or_ge (r+1) q with h | h
   ·have hne:R≠r+1:=by omega
    simp only[hne,if_false,Nat.beq_eq_true_eq,decide_false,cond_false,Nat.zero_add]
    exact List.take_of_length_le (by rw[List.length_drop,hcl,Nat.sub_mul];exact Nat.le_refl _)
   ·have:q=r+1:=by omega
    subst this
    rw[Nat.sub_self,Nat.zero_mul,List.take_zero,List.drop_eq_nil_of_le (by omega)]
  have q3:=c3 S ty E ty' F ep at_ wh q (aA l) R (some (R+1)) (IntKind.u64.wrap at_) (q:Int) (r:Int) (r:Int) (IntKind.u64.wrap wh) ((3:Nat):Int) ((r+1:Nat):Int) R g
  rw[hsrc] at q3
  have hsl:((aA l).drop ((r+1)*130)).length=(q-(r+1))*130:=by rw[List.length_drop,hcl,Nat.sub_mul]
  have hr1:IntKind.i64.wrap ((r:Int)+1)=((r+1:Nat):Int):=by rw[IntKind.wrap_i64];omega
  have hn:(r:Int).toNat+(q-((r+1:Nat):Int).toNat)=q-1:=by show r+(q-(r+1))=q-1;omega
  refine Runs.seq (Runs.au ah mixed q3 ⟨hgt,rfl,hqw,hq0,hrm,hrw,rfl,hk,hkw,by omega,by omega,by omega,hr1,by omega,by omega,by omega,?_,?_,?_,fun v hv=>oneCs l v (List.mem_of_mem_drop hv),trivial⟩ (i5r S ty E ty' F ep at_ wh q _ _ _ _ _) rfl fun g=> ?_)
  ·show(0+advS R (r+1) 0 130)+(q-(r+1))*130≤_
   unfold advS
   split<;>omega
  ·show r-0+(q-(r+1))≤R-0
   omega
  ·show 0+0+(r-0)*130+(q-(r+1))*130≤_
   omega
  ·have hus:∀us:List Value,us=iF (0+0+(r:Int).toNat*130) ((aA l).drop ((r+1)*130)) (aA l)→us.length=q*130∧us.take ((q-1)*130)=aA (l.eraseIdx r):=fun us hus=>by
    have e:0+0+(r:Int).toNat*130=r*130:=by show 0+0+r*130=_;omega
    rw[e] at hus
    have h2:=erase_vals l hrl
    rw[hlen] at h2
    subst hus
    refine⟨?_,h2⟩
    unfold iF
    simp only[List.length_append,List.length_take,List.length_drop,hcl]
    omega
   generalize iF (0+0+(r:Int).toNat*130) ((aA l).drop ((r+1)*130)) (aA l)=us at hus ⊢
   obtain⟨u1,u2⟩:=hus us rfl
   refine Runs.hideRoom 12 2 R (n:=(r:Int).toNat+(q-((r+1:Nat):Int).toNat)) (R:=R) (own:=true) (ty:=39) (s:=130) (vs:=us) rfl rfl (Nat.le_refl _) ?_
   rw[set_h,hn]
   have hel:(l.eraseIdx r).length=q-1:=by rw[List.length_eraseIdx_of_lt hrl,hlen]
   refine done V hV S ty E ty' F ep at_ wh q (l.eraseIdx r) (q-1) us R (by omega) (by omega) hsg u2 hel (by omega) (fun i hi=> ?_) g
   have hi2:i<(l.eraseIdx r).length:=by omega
   have hm:=List.getElem_mem hi2
   rw[List.getD_eq_getElem?_getD,List.getElem?_eq_getElem hi2,Option.getD_some]
   obtain⟨j,hj,e⟩:=List.mem_iff_getElem.1 (List.mem_of_mem_eraseIdx hm)
   have:=hc j (by omega)
   rw[List.getD_eq_getElem?_getD,List.getElem?_eq_getElem hj,Option.getD_some,e] at this
   exact this
 ·have e1:0+aP 0 (r:Int) 130+130≤(aA l).length:=by rw[hcl];omega
  have e2:SV.o (.g (bR (aA l) (0+aP 0 (r:Int) 130) 130))=bK.enc (l.getD r zc):=by rw[o];exact ld_cert l hrl
  have ev:aA l++(l.getD r zc).vals=aA (l++[l.getD r zc]):=by simp[aA]
  have hl4:(l++[l.getD r zc]).length=q+1:=by rw[List.length_append,hlen];rfl
  have hc4:∀i,i<q+1→COk ((l++[l.getD r zc]).getD i zc):=fun i hi=>by
   rcases Nat.lt_or_ge i q with h | h
   ·rw[List.getD_eq_getElem?_getD,List.getElem?_append_left (by omega),←List.getD_eq_getElem?_getD];exact hc i h
   ·rw[List.getD_eq_getElem?_getD,List.getElem?_append_right (by omega),show i-l.length=0 by omega];exact hcr
  have fin:∀g,aK Tryz.prog G3 2 B18 (fill g 0 (M5 ep (q+1))) (m S ty E ty' F ep at_ wh q (aA (l++[l.getD r zc])) (q+1) none) (aN tys fn (bA (aY.enc true) .none)):=fun g=>
   done V hV S ty E ty' F ep at_ wh q _ (q+1) _ (q+1) (by rw[iX,hl4];exact Nat.le_refl _) (Nat.le_refl _) hsg (List.take_of_length_le (by rw[iX,hl4];exact Nat.le_refl _)) hl4 (by omega) hc4 g
  refine Runs.roomV 2 (q+1) (own:=true) (ty:=39) (s:=130) (vs:=aA l) (lo:=q) rfl ?_ ?_
  ·have q4:=c4g S ty E ty' F ep at_ wh q (aA l) (IntKind.u64.wrap at_) (q:Int) (r:Int) (r:Int) (IntKind.u64.wrap wh) ((4:Nat):Int) (l.getD r zc) g
   rw[ev] at q4
   exact Runs.seq (Runs.bW ah mixed [0,1,2,3] q4 ⟨hgt,rfl,hqw,hq0,hrm,hrw,rfl,hk,hkw,by omega,by omega,e1,e2,by decide,by omega,Nat.le_refl _,oneC _,trivial⟩ (i5 S ty E ty' F ep at_ wh q _ _ _ _) rfl fin)
  ·have q4:=c4r S ty E ty' F ep at_ wh q (aA l) q (IntKind.u64.wrap at_) (q:Int) (r:Int) (r:Int) (IntKind.u64.wrap wh) ((4:Nat):Int) (l.getD r zc) g
   rw[ev] at q4
   exact Runs.seq (Runs.bW ah mixed [0,1,5,3] q4 ⟨hgt,rfl,hqw,hq0,hrm,hrw,rfl,hk,hkw,by omega,by omega,e1,e2,by decide,by omega,Nat.le_refl _,kcp.roomC _ (by omega),trivial⟩ (i5 S ty E ty' F ep at_ wh q _ _ _ _) rfl fin)
 ·have e:0+aP (aP 0 (r:Int) 130+0+1) 0 1=r*130+1:=by simp[lN]<;>omega
  have hz:iF (0+aP (aP 0 (r:Int) 130+0+1) 0 1) [.int .u8 (IntKind.u8.wrap ((l.getD r zc).k.sg.b0+1))] (aA l)=aA (l.set r (cSg (l.getD r zc) (IntKind.u8.wrap ((l.getD r zc).k.sg.b0+1)))):=by rw[e];exact put_at l hrl 1 _ _ (by show 1+1≤130;omega) (sg_put _ _)
  have hx:SV.o (.a (.v ((aA l).getD (0+aP (aP 0 (r:Int) 130+0+1) 0 1) undef)))= .o (.a (aB .u8 (l.getD r zc).k.sg.b0)):=by rw[e,wW Cert.fE l zc 1 hrl (by omega)];rfl
  have qc:=c5 S ty E ty' F ep at_ wh q (aA l) q none (IntKind.u64.wrap at_) (q:Int) (r:Int) (r:Int) (IntKind.u64.wrap wh) ((5:Nat):Int) (l.getD r zc).k.sg.b0 (IntKind.u8.wrap ((l.getD r zc).k.sg.b0+1)) g
  rw[hz] at qc
  have hc':=set_cok hc hrl (c:=cSg (l.getD r zc) (IntKind.u8.wrap ((l.getD r zc).k.sg.b0+1))) (⟨⟨hcr.1.1,b0_ok hcr.1.2.1 _,hcr.1.2.2⟩,hcr.2⟩)
  have hl':(l.set r (cSg (l.getD r zc) (IntKind.u8.wrap ((l.getD r zc).k.sg.b0+1)))).length=q:=by rw[List.length_set];exact hlen
  refine Runs.seq (Runs.au ah mixed qc ⟨hgt,rfl,hqw,hq0,hrm,hrw,rfl,hk,hkw,by omega,by omega,by decide,by decide,by rw[e,hcl];omega,hx,rfl,by omega,by omega,by decide,by decide,by rw[e,hcl];omega,trivial⟩ (i5 S ty E ty' F ep at_ wh q _ _ _ _) rfl fun g=> ?_)
  exact done V hV S ty E ty' F ep at_ wh q _ q _ q (by rw[iX,hl'];omega) (Nat.le_refl _) hsg (List.take_of_length_le (by rw[iX,hl'];omega)) hl' (by omega) hc' g
end mu
end lkl
end Go.Proofs.YthlmepolmemejaaGreatDoor

/- The root of leaves: both sides alike, whatever the order. Plain. -/
import Derived.Test.YtdccehmekkcheaaDoorCMTH
set_option linter.unusedSimpArgs false
set_option linter.unusedVariables false
namespace Go.Proofs.YtdccehmekkcheaaDoor
open Go Go.Eng Go.RowKit
set_option maxRecDepth 100000
def LeP (a b:Nd):Prop:=ltV b.pre a.pre=false
def LtP (a b:Nd):Prop:=ltV a.pre b.pre=true
def NeP (a b:Nd):Prop:=a.pre≠b.pre
theorem ltS_eq {a b:Nd} (ha:NOk a) (hb:NOk b):ltS a b=ltV a.pre b.pre:=by
 have h:=cmpV_neg ha.1 hb.1
 unfold cmpV at h
 unfold ltS
 cases hv:ltV a.pre b.pre with
 | true=>exact decide_eq_true (h.2 hv)
 | false=>exact decide_eq_false fun hn=>by rw[h.1 hn] at hv;cases hv
theorem srt_ok {l:List Nd} (h:bg l):bg (bX l):=fun x hx=>h x ((mQ l).mem_iff.1 hx)
theorem srt_pair {l:List Nd} (h:bg l):(bX l).Pairwise LeP:=by
 have hk:=srt_ok h
 have hl:=jk l
 rw[List.pairwise_iff_getElem]
 intro i j hi hj hij
 have:=sortL_sorted l i j hij (by omega)
 rw[ltS_eq (hk.at hj) (hk.at hi),getD_lt hi,getD_lt hj] at this
 exact this
theorem LtP.le {a b:Nd} (h:LtP a b):LeP a b:=lt_asymm h
theorem LtP.ne {a b:Nd} (h:LtP a b):NeP a b:=fun e=>by
 unfold LtP at h
 rw[e,lt_irrefl] at h
 cases h
theorem uniq {A B:List Nd} (hA:bg A) (hp:A.Perm B) (hn:A.Pairwise NeP) (h1:A.Pairwise LeP) (h2:B.Pairwise LeP):A=B:=by
 refine List.Perm.eq_of_pairwise (le:=LeP) (fun a b ha hb x y=> ?_) h1 h2 hp
 have hb':=hp.mem_iff.2 hb
 have e:a.pre=b.pre:=Classical.byContradiction fun hne=>by
  rcases lt_tri (hA a ha).1 (hA b hb').1 hne with h | h
  ·unfold LeP at y;rw[y] at h;cases h
  ·unfold LeP at x;rw[x] at h;cases h
 obtain⟨i,hi,rfl⟩:=List.mem_iff_getElem.1 ha
 obtain⟨j,hj,rfl⟩:=List.mem_iff_getElem.1 hb'
 rw[List.pairwise_iff_getElem] at hn
 rcases Nat.lt_trichotomy i j with h | h | h
 ·exact absurd e (hn i j hi hj h)
 ·subst h;rfl
 ·exact absurd e.symm (hn j i hj hi h)
theorem NeP.symm {a b:Nd} (h:NeP a b):NeP b a:=fun e=>h e.symm
theorem ne_perm {A B:List Nd} (hp:A.Perm B) (h:A.Pairwise NeP):B.Pairwise NeP:=h.perm hp fun {x y} h=>NeP.symm h
theorem insK_up (out:List Nd) (x:Nd):∀n j,insK out x n≤j→j<n→ltV x.pre (out.getD j zn).pre=true
 | 0,j,_,h=>absurd h (by omega)
 | n+1,j,h,hj=>by
  unfold insK at h
  cases hv:ltV x.pre (out.getD n zn).pre with
  | false=>rw[hv,cond_false] at h;omega
  | true=>
   rw[hv,cond_true] at h
   rcases Nat.lt_or_ge j n with h1 | h1
   ·exact insK_up out x n j h h1
   ·obtain rfl:j=n:=by omega
    exact hv
theorem insK_dn (out:List Nd) (x:Nd):∀n k,insK out x n=k+1→ltV x.pre (out.getD k zn).pre=false
 | 0,k,h=>by cases h
 | n+1,k,h=>by
  unfold insK at h
  cases hv:ltV x.pre (out.getD n zn).pre with
  | true=>rw[hv,cond_true] at h;exact insK_dn out x n k h
  | false=>
   rw[hv,cond_false] at h
   obtain rfl:n=k:=by omega
   exact hv
theorem LtP.trans {a b c:Nd} (h:LtP a b) (k:LtP b c):LtP a c:=lt_trans h k
theorem ins_pair {out:List Nd} {x:Nd} (ho:bg out) (hx:NOk x) (hp:out.Pairwise LtP) (hd:dupV out x=false):(insV out x).Pairwise LtP:=by
 have hk:=insK_le out x out.length
 have up:=insK_up out x out.length
 have dn:=insK_dn out x out.length
 unfold dupV at hd
 unfold insV
 generalize insK out x out.length=k at*
 have h1:∀b∈out.drop k,LtP x b:=fun b hb=>by
  obtain⟨j,hj,rfl⟩:=List.mem_iff_getElem.1 hb
  rw[List.length_drop] at hj
  rw[List.getElem_drop]
  have:=up (k+j) (by omega) (by omega)
  rwa [getD_lt (by omega)] at this
 have h2:∀a∈out.take k,LtP a x:=fun a ha=>by
  cases k with
  | zero=>cases ha
  | succ k=>
   have hkl:k<out.length:=by omega
   have hne:(out.getD k zn).pre≠x.pre:=fun e=>by
    have hd:eqL (out.getD k zn).pre.to x.pre.to=false:=hd
    rw[e] at hd
    rw[(pW _ _).2 rfl] at hd
    cases hd
   have hlt:LtP (out.getD k zn) x:=by
    rcases lt_tri (ho.at hkl).1 hx.1 hne with h | h
    ·exact h
    ·rw[dn k rfl] at h;cases h
   obtain⟨j,hj,rfl⟩:=List.mem_iff_getElem.1 ha
   rw[List.length_take] at hj
   rw[List.getElem_take]
   rcases Nat.lt_or_ge j k with hjk | hjk
   ·rw[List.pairwise_iff_getElem] at hp
    have:=hp j k (by omega) hkl hjk
    rw[getD_lt hkl] at hlt
    exact this.trans hlt
   ·obtain rfl:j=k:=by omega
    rwa [getD_lt hkl] at hlt
 rw[List.pairwise_append]
 refine⟨hp.sublist (List.take_sublist _ _),List.pairwise_cons.2 ⟨h1,hp.sublist (List.drop_sublist _ _)⟩,fun a ha b hb=> ?_⟩
 rcases List.mem_cons.1 hb with rfl | hb
 ·exact h2 a ha
 ·exact(h2 a ha).trans (h1 b hb)
theorem ins_perm (out:List Nd) (x:Nd):(insV out x).Perm (x::out):=by
 unfold insV
 have:=List.perm_middle (a:=x) (l₁:=out.take (insK out x out.length)) (l₂:=out.drop (insK out x out.length))
 rwa [List.take_append_drop] at this
theorem qY (l:List Lf):∀i,i≤l.length→(dU l i).Perm (leaves l i)
 | 0,_=>List.Perm.refl _
 | i+1,hi=>by
  rw[sI (by omega)]
  exact((ins_perm _ _).trans ((qY l i (by omega)).cons _)).trans (List.perm_append_singleton _ _).symm
theorem uf {l:List Lf} (h:bI l):∀i,i≤l.length→fK l i=false→(dU l i).Pairwise LtP
 | 0,_,_=>List.Pairwise.nil
 | i+1,hi,hd=>by
  unfold fK at hd
  rw[Bool.or_eq_false_iff] at hd
  exact ins_pair (pz h i (by omega)) (uq (h.at (by omega))) (uf h i (by omega) hd.1) hd.2
theorem tnd_pair {l:List Lf} (h:bI l):(bq l).Pairwise LeP:=srt_pair fun x hx=>by
 obtain⟨z,hz,rfl⟩:=List.mem_map.1 hx
 exact uq (h z hz)
theorem nV (l:List Lf):(bq l).Perm (l.map bP):=mQ _
theorem rnd_tnd {l:List Lf} (h:bI l) (hd:fK l l.length=false):dU l l.length=bq l:=by
 have hp:=uf h l.length (Nat.le_refl _) hd
 have q:=qY l l.length (Nat.le_refl _)
 rw[qL] at q
 exact uniq (pz h _ (Nat.le_refl _)) (q.trans (nV l).symm) (hp.imp fun h=>h.ne) (hp.imp fun h=>h.le) (tnd_pair h)
theorem qg {l:List Lf} (hn:(l.map bP).Pairwise NeP):∀i,i≤l.length→fK l i=false
 | 0,_=>rfl
 | i+1,hi=>by
  unfold fK
  rw[qg hn i (by omega),Bool.false_or]
  have hs:(leaves l (i+1)).Pairwise NeP:=by
   unfold leaves
   rw[List.map_take]
   exact hn.sublist (List.take_sublist _ _)
  rw[sI (by omega),List.pairwise_append] at hs
  unfold dupV
  have hk:=insK_le (dU l i) (bP (l.getD i zl)) (dU l i).length
  cases hq:insK (dU l i) (bP (l.getD i zl)) (dU l i).length with
  | zero=>rfl
  | succ k=>
   show eqL ((dU l i).getD k zn).pre.to (bP (l.getD i zl)).pre.to=false
   rw[hq] at hk
   have hm:(dU l i).getD k zn∈leaves l i:=(qY l i (by omega)).mem_iff.1 (dV (by omega) _)
   have hne:=hs.2.2 _ hm _ (List.mem_singleton.2 rfl)
   cases he:eqL ((dU l i).getD k zn).pre.to (bP (l.getD i zl)).pre.to with
   | false=>rfl
   | true=>exact absurd (to_inj ((pW _ _).1 he)) hne
theorem apart_ne {l:List Lf} (h:bI l) (ha:bC (bq l)=true):(l.map bP).Pairwise NeP:=
 ne_perm (nV l) (((gF (iV h)).1 ha).pair.imp fun {a b} h=>LtP.ne h.1)
theorem rof_eq {l:List Lf} (h:bI l) (H:Nd→Nd→B32) (E:B32) (S:Nd→B32):gM H E S l=rofT H E S l:=by
 unfold gM rofT
 cases hd:fK l l.length with
 | false=>rw[cond_false,rnd_tnd h hd]
 | true=>
  rw[cond_true]
  unfold bO
  cases ha:bC (bq l) with
  | false=>rfl
  | true=>rw[qg (apart_ne h ha) _ (Nat.le_refl _)] at hd;cases hd
end Go.Proofs.YtdccehmekkcheaaDoor

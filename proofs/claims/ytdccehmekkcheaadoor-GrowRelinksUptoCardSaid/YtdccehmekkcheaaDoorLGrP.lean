/- Package beaconref12: Stays: run, contracts. -/
import Derived.Test.YtdccehmekkcheaaDoorLGrF
import Derived.Test.YtdccehmekkcheaaDoorLDsF
namespace Go.Proofs.YtdccehmekkcheaaDoor
open Go Go.Eng Go.RowKit
set_option linter.unusedVariables false
set_option linter.unusedSimpArgs false
set_option maxRecDepth 100000
noncomputable def stR (H:Nd→Nd→B32) (A B:List Lf):List Nd:=witV H false (rndA A A.length) (labs B)
theorem dup_ne {l:List Lf} (h:AllL l) (hd:rndD l l.length=false):(l.map leafV).Pairwise NeP:=by
 have hp:=rnd_perm l l.length (Nat.le_refl _)
 rw[leaves_all] at hp
 exact ne_perm hp ((rnd_pair h _ (Nat.le_refl _) hd).imp fun h=>h.ne)
theorem dup_left {A B:List Lf} (hA:AllL A) (hB:AllL B) (hd:rndD (A++B) (A++B).length=false):rndD A A.length=false:=
 ne_dup (ne_left (dup_ne (hA.app hB) hd)) _ (Nat.le_refl _)
theorem leaf_holds {z:Lf} (hz:LOk z) {x:B32} (hx:BOk x):holdsV (leafV z) x=true↔z.lab=x:=by
 rw[holds_iff (leaf_good hz)]
 constructor
 ·intro h
  have h:256≤comV z.lab x:=h
  exact eq_of_com hz.1 hx (Nat.le_antisymm (com_le _ _) h)
 ·rintro rfl
  show 256≤comV z.lab z.lab
  rw[com_self]
  exact Nat.le_refl _
theorem cross {A B:List Lf} (h:((A++B).map leafV).Pairwise NeP) {z y:Lf} (hz:z∈A) (hy:y∈B):z.lab≠y.lab:=by
 rw[List.map_append,List.pairwise_append] at h
 exact h.2.2 _ (List.mem_map_of_mem hz) _ (List.mem_map_of_mem hy)
theorem not_held {A B:List Lf} (hA:AllL A) (hB:AllL B) (h:((A++B).map leafV).Pairwise NeP) {z:Lf} (hz:z∈A):∀x∈labs B,holdsV (leafV z) x=false:=fun x hx=>by
 obtain⟨y,hy,rfl⟩:=List.mem_map.1 hx
 rw[←Bool.not_eq_true,leaf_holds (hA z hz) (hB y hy).1]
 exact cross h hz hy
theorem st_ne {H:Nd→Nd→B32} (hH:∀a b,BOk (H a b)) {A B:List Lf} (hA:AllL A) (hB:AllL B) (h0:0<A.length) (hd:rndD (A++B) (A++B).length=false):stR H A B≠[]:=fun e=>by
 have hne:=dup_ne (hA.app hB) hd
 have hdA:=dup_left hA hB hd
 have hAp:=rnd_ap hA hdA
 have hl:=rndA_len A A.length
 have hr:rndA A A.length≠[]:=by rw[←List.length_pos_iff,hl];exact h0
 have W:=witV_spec H hH false hAp hr (labs B)
 obtain⟨n,hn⟩:=List.exists_mem_of_ne_nil _ hr
 obtain⟨z,hz,rfl⟩:=mem_rnd hn
 unfold stR at e
 rcases W.all _ hn with⟨p,hp,_⟩ | ⟨_,x,hx,hh⟩
 ·rw[e] at hp;cases hp
 ·rw[not_held hA hB hne hz x hx] at hh;cases hh
end Go.Proofs.YtdccehmekkcheaaDoor

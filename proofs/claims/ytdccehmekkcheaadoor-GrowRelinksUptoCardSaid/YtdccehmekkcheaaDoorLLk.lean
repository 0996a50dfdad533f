/- Links, as rows of values; their leaves. -/
import Derived.Test.YtdccehmekkcheaaDoorLGsP
import Derived.Test.YtdccehmekkcheaaDoorLTrPl
namespace Go.Proofs.YtdccehmekkcheaaDoor
open Go Go.Eng Go.RowKit
set_option linter.unusedVariables false
set_option linter.unusedSimpArgs false
set_option maxRecDepth 100000
structure Lk where
 old:B32
 new:B32
 val:B32
def Lk.row (n:Lk):List Atom:=cB32.row n.old++(cB32.row n.new++cB32.row n.val)
theorem Lk.ids (k:Lk):aP k.row=[]:=rfl
def Lk.of (r:List Atom):Option Lk:=match cB32.dec (.o (.g (r.take 32))),cB32.dec (.o (.g ((r.drop 32).take 32))),cB32.dec (.o (.g (r.drop 64))) with
 | some a,some b,some c=>some ⟨a,b,c⟩
 | _,_,_=>none
theorem Lk.of_ok {cs:List Atom} {k:Lk} (h:Lk.of cs=some k):k.row=cs:=by
 unfold Lk.of at h
 split at h<;>cases h
 rename_i a b c h1 h2 h3
 unfold Lk.row
 rw[row_of32 h1,row_of32 h2,row_of32 h3,show cs.drop 64=(cs.drop 32).drop 32 by rw[List.drop_drop],List.take_append_drop,List.take_append_drop]
def cLk:Cod Lk:=cRec Lk.row Lk.of Lk.of_ok Lk.ids
def Lk.vals (l:Lk):List Value:=(l.old.to++(l.new.to++l.val.to)).map (Value.int .u8)
theorem Lk.bJ (n:Lk):n.vals.length=96:=rfl
abbrev aD (l:List Lk):List Value:=l.flatMap Lk.vals
def zk:Lk:=⟨zB,zB,zB⟩
theorem kvals_len (l:List Lk):(aD l).length=l.length*96:=flat_len Lk.bJ l
theorem ld_lk (l:List Lk) {i:Nat} (hi:i<l.length):SV.o (.g (aL (aD l) (i*96) 96))=cLk.enc (l.getD i zk):=by
 have h:=takeV_flat Lk.bJ l zk 0 96 hi (by omega)
 rw[Nat.add_zero] at h
 rw[h,List.drop_zero,List.take_of_length_le (by rw[Lk.bJ];omega)]
 rfl
theorem ld_k0 (l:List Lk) {i:Nat} (hi:i<l.length):SV.o (.g (aL (aD l) (i*96) 32))=cB32.enc (l.getD i zk).old:=by
 have h:=takeV_flat Lk.bJ l zk 0 32 hi (by omega)
 rw[Nat.add_zero] at h
 rw[h];rfl
theorem ld_k1 (l:List Lk) {i:Nat} (hi:i<l.length):SV.o (.g (aL (aD l) (i*96+32) 32))=cB32.enc (l.getD i zk).new:=by
 rw[takeV_flat Lk.bJ l zk 32 32 hi (by omega)];rfl
theorem ld_k2 (l:List Lk) {i:Nat} (hi:i<l.length):SV.o (.g (aL (aD l) (i*96+64) 32))=cB32.enc (l.getD i zk).val:=by
 rw[takeV_flat Lk.bJ l zk 64 32 hi (by omega)];rfl
def aT:List Value→List Lk
 | []=>[]
 | v::r=>match Lk.of ((v::r.take 95).map Atom.v) with
  | some n=>n::aT (r.drop 95)
  | none=>[]
 termination_by l=>l.length
 decreasing_by simp only[List.length_drop,List.length_cons];omega
theorem Lk.of_row (n:Lk):Lk.of n.row=some n:=rfl
theorem kkDec_vals:∀l:List Lk,aT (aD l)=l
 | []=>by rw[show aD []=[] from rfl,aT]
 | n::r=>by
  have e:aD (n::r)=n.vals++aD r:=by simp[aD]
  rw[e]
  have e2:n.vals++aD r= .int .u8 n.old.b0::(((n.old.to++(n.new.to++n.val.to)).tail.map (Value.int .u8))++aD r):=rfl
  have hl:((n.old.to++(n.new.to++n.val.to)).tail.map (Value.int .u8)).length=95:=rfl
  rw[e2,aT,List.take_append_of_le_length (by rw[hl];omega),List.take_of_length_le (by rw[hl];omega),List.drop_append,hl,Nat.sub_self,List.drop_zero,List.drop_eq_nil_of_le (by rw[hl];omega),List.nil_append]
  have e3:(Value.int .u8 n.old.b0::(n.old.to++(n.new.to++n.val.to)).tail.map (Value.int .u8)).map Atom.v=n.row:=rfl
  rw[e3,Lk.of_row]
  simp only
  rw[kkDec_vals r]
def KOk3 (k:Lk):Prop:=BOk k.old∧BOk k.new∧BOk k.val
def AllK (l:List Lk):Prop:=∀x∈l,KOk3 x
def oldL (k:Lk):Lf:=⟨k.old,k.val⟩
def newL (k:Lk):Lf:=⟨k.new,k.val⟩
def olds (l:List Lk):List Lf:=l.map oldL
def news (l:List Lk):List Lf:=l.map newL
theorem olds_len (l:List Lk):(olds l).length=l.length:=List.length_map _
theorem news_len (l:List Lk):(news l).length=l.length:=List.length_map _
theorem olds_ok {l:List Lk} (h:AllK l):AllL (olds l):=fun x hx=>by
 obtain⟨z,hz,rfl⟩:=List.mem_map.1 hx
 exact⟨(h z hz).1,(h z hz).2.2⟩
theorem news_ok {l:List Lk} (h:AllK l):AllL (news l):=fun x hx=>by
 obtain⟨z,hz,rfl⟩:=List.mem_map.1 hx
 exact⟨(h z hz).2.1,(h z hz).2.2⟩
theorem AllK.at {l:List Lk} (h:AllK l) {i:Nat} (hi:i<l.length):KOk3 (l.getD i zk):=h _ (getD_mem hi _)
theorem map_take {α β:Type} (f:α→β) (d:α) {l:List α} {i:Nat} (h:i<l.length):(l.take (i+1)).map f=(l.take i).map f++[f (l.getD i d)]:=by
 rw[List.take_succ_eq_append_getElem h,List.map_append,getD_lt h];rfl
theorem olds_take {l:List Lk} {i:Nat} (h:i<l.length):olds (l.take (i+1))=olds (l.take i)++[oldL (l.getD i zk)]:=map_take oldL zk h
theorem news_take {l:List Lk} {i:Nat} (h:i<l.length):news (l.take (i+1))=news (l.take i)++[newL (l.getD i zk)]:=map_take newL zk h
theorem lv1 (L:List Lf) (z:Lf):lvals (L++[z])=lvals L++z.vals:=by rw[lvals_app,show lvals [z]=z.vals from List.append_nil _]
end Go.Proofs.YtdccehmekkcheaaDoor

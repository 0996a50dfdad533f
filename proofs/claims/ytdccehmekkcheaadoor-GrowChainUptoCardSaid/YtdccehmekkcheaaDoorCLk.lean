/- Links, as rows of values; their leaves. -/
import Derived.Test.YtdccehmekkcheaaDoorCMTI
import Derived.Test.YtdccehmekkcheaaDoorCTrPl
set_option linter.unusedSimpArgs false
set_option linter.unusedVariables false
namespace Go.Proofs.YtdccehmekkcheaaDoor
open Go Go.Eng Go.RowKit
set_option maxRecDepth 100000
structure Lk where
 old:B32
 new:B32
 val:B32
def Lk.row (n:Lk):List Atom:=ay.row n.old++(ay.row n.new++ay.row n.val)
theorem Lk.ids (k:Lk):bL k.row=[]:=rfl
def Lk.of (r:List Atom):Option Lk:=match ay.dec (.o (.g (r.take 32))),ay.dec (.o (.g ((r.drop 32).take 32))),ay.dec (.o (.g (r.drop 64))) with
 | some a,some b,some c=>some ⟨a,b,c⟩
 | _,_,_=>none
theorem Lk.of_ok {cs:List Atom} {k:Lk} (h:Lk.of cs=some k):k.row=cs:=by
 unfold Lk.of at h
 split at h<;>cases h
 rename_i a b c h1 h2 h3
 unfold Lk.row
 rw[nW h1,nW h2,nW h3,show cs.drop 64=(cs.drop 32).drop 32 by rw[List.drop_drop],List.take_append_drop,List.take_append_drop]
def Lk.vals (l:Lk):List Value:=(l.old.to++(l.new.to++l.val.to)).map (Value.int .u8)
theorem Lk.dG (n:Lk):n.vals.length=96:=rfl
def zk:Lk:=⟨zB,zB,zB⟩
theorem Lk.of_row (n:Lk):Lk.of n.row=some n:=rfl
def KOk3 (k:Lk):Prop:=BOk k.old∧BOk k.new∧BOk k.val
def AllK (l:List Lk):Prop:=∀x∈l,KOk3 x
def oldL (k:Lk):Lf:=⟨k.old,k.val⟩
def newL (k:Lk):Lf:=⟨k.new,k.val⟩
def olds (l:List Lk):List Lf:=l.map oldL
def news (l:List Lk):List Lf:=l.map newL
theorem AllK.at {l:List Lk} (h:AllK l) {i:Nat} (hi:i<l.length):KOk3 (l.getD i zk):=h _ (dV hi _)
end Go.Proofs.YtdccehmekkcheaaDoor

/- Rows of numbers as structures, how the executor reads and writes them, and contracts out of families of runs. -/
import Derived.Test.YtdccehmekkcheaaDoorCEngY
set_option linter.unusedVariables false
namespace Go.Eng
open Go.RowKit
structure Cod (α:Type) where
 enc:α→SV
 dec:SV→Option α
 ok:∀x a,dec x=some a→enc a=x
 ids:∀a,(enc a).ids=[]
def Cod.row {α:Type} (c:Cod α) (a:α):List Atom:=match c.enc a with
 | .o (.g cs)=>cs
 | _=>[]
def qo (k:IntKind):List Atom→Option (List Int)
 | []=>some []
 | .v (.int j n)::r=>if j=k then
   match qo k r with
   | some l=>some (n::l)
   | none=>none
  else none
 | _=>none
theorem nH {k:IntKind}:∀{cs:List Atom} {l:List Int},qo k cs=some l→l.map (aG k)=cs
 | [],l,h=>by simp only[qo] at h;cases h;rfl
 | c::r,l,h=>by
  unfold qo at h
  split at h<;>try cases h
  ·rename_i e;cases e
  ·rename_i j n r' e
   obtain⟨rfl,rfl⟩:=List.cons.inj e
   split at h<;>try cases h
   rename_i hk
   subst hk
   split at h<;>try cases h
   rename_i l' hl
   simp[nH hl]
theorem lT (k:IntKind) (l:List Int):bL (l.map (aG k))=[]:=by
 induction l<;>simp_all [bL,Atom.ids]
def aQ (k:IntKind):Cod Int where
 enc n:= .o (.a (aG k n))
 dec
  | .o (.a (.v (.int j n)))=>if j=k then some n else none
  | _=>none
 ok x a h:=by
  split at h<;>try cases h
  split at h<;>try cases h
  rename_i hk;subst hk;rfl
 ids _:=rfl
def aI:Cod Bool where
 enc b:= .o (.a (fH b))
 dec
  | .o (.a (.v (.bool b)))=>some b
  | _=>none
 ok x a h:=by
  split at h<;>cases h
  rfl
 ids _:=rfl
def cRow {α:Type} (k:IntKind) (to:α→List Int) (of:List Int→Option α) (h:∀l a,of l=some a→to a=l):Cod α where
 enc a:= .o (.g ((to a).map (aG k)))
 dec
  | .o (.g cs)=>match qo k cs with
   | some l=>of l
   | none=>none
  | _=>none
 ok x a hx:=by
  split at hx<;>try cases hx
  split at hx<;>try cases hx
  rename_i l hl
  rw[h l a hx,nH hl]
 ids a:=lT k (to a)
structure E5 where
 l0:Int
 l1:Int
 l2:Int
 l3:Int
 l4:Int
structure N4 where
 l0:Int
 l1:Int
 l2:Int
 l3:Int
structure W2 where
 hi:Int
 lo:Int
def E5.to (e:E5):List Int:=[e.l0,e.l1,e.l2,e.l3,e.l4]
def E5.of:List Int→Option E5
 | [a,b,c,d,e]=>some ⟨a,b,c,d,e⟩
 | _=>none
def N4.to (e:N4):List Int:=[e.l0,e.l1,e.l2,e.l3]
def N4.of:List Int→Option N4
 | [a,b,c,d]=>some ⟨a,b,c,d⟩
 | _=>none
def W2.to (e:W2):List Int:=[e.hi,e.lo]
def W2.of:List Int→Option W2
 | [a,b]=>some ⟨a,b⟩
 | _=>none
theorem E5.of_to:∀l a,E5.of l=some a→E5.to a=l:=by
 intro l a h
 unfold E5.of at h
 split at h<;>cases h
 rfl
theorem N4.of_to:∀l a,N4.of l=some a→N4.to a=l:=by
 intro l a h
 unfold N4.of at h
 split at h<;>cases h
 rfl
theorem W2.of_to:∀l a,W2.of l=some a→W2.to a=l:=by
 intro l a h
 unfold W2.of at h
 split at h<;>cases h
 rfl
structure B32 where
 b0:Int
 b1:Int
 b2:Int
 b3:Int
 b4:Int
 b5:Int
 b6:Int
 b7:Int
 b8:Int
 b9:Int
 b10:Int
 b11:Int
 b12:Int
 b13:Int
 b14:Int
 b15:Int
 b16:Int
 b17:Int
 b18:Int
 b19:Int
 b20:Int
 b21:Int
 b22:Int
 b23:Int
 b24:Int
 b25:Int
 b26:Int
 b27:Int
 b28:Int
 b29:Int
 b30:Int
 b31:Int
def B32.at (x:B32):Nat→Int
 | 0=>x.b0
 | 1=>x.b1
 | 2=>x.b2
 | 3=>x.b3
 | 4=>x.b4
 | 5=>x.b5
 | 6=>x.b6
 | 7=>x.b7
 | 8=>x.b8
 | 9=>x.b9
 | 10=>x.b10
 | 11=>x.b11
 | 12=>x.b12
 | 13=>x.b13
 | 14=>x.b14
 | 15=>x.b15
 | 16=>x.b16
 | 17=>x.b17
 | 18=>x.b18
 | 19=>x.b19
 | 20=>x.b20
 | 21=>x.b21
 | 22=>x.b22
 | 23=>x.b23
 | 24=>x.b24
 | 25=>x.b25
 | 26=>x.b26
 | 27=>x.b27
 | 28=>x.b28
 | 29=>x.b29
 | 30=>x.b30
 | _=>x.b31
def B32.mk' (f:Nat→Int):B32:=⟨f 0,f 1,f 2,f 3,f 4,f 5,f 6,f 7,f 8,f 9,f 10,f 11,f 12,f 13,f 14,f 15,f 16,f 17,f 18,f 19,f 20,f 21,f 22,f 23,f 24,f 25,f 26,f 27,f 28,f 29,f 30,f 31⟩
def B32.to (x:B32):List Int:=[x.b0,x.b1,x.b2,x.b3,x.b4,x.b5,x.b6,x.b7,x.b8,x.b9,x.b10,x.b11,x.b12,x.b13,x.b14,x.b15,x.b16,x.b17,x.b18,x.b19,x.b20,x.b21,x.b22,x.b23,x.b24,x.b25,x.b26,x.b27,x.b28,x.b29,x.b30,x.b31]
def B32.of:List Int→Option B32
 | [a0,a1,a2,a3,a4,a5,a6,a7,a8,a9,a10,a11,a12,a13,a14,a15,a16,a17,a18,a19,a20,a21,a22,a23,a24,a25,a26,a27,a28,a29,a30,a31]=>some ⟨a0,a1,a2,a3,a4,a5,a6,a7,a8,a9,a10,a11,a12,a13,a14,a15,a16,a17,a18,a19,a20,a21,a22,a23,a24,a25,a26,a27,a28,a29,a30,a31⟩
 | _=>none
theorem B32.of_to:∀l a,B32.of l=some a→B32.to a=l:=by
 intro l a h
 unfold B32.of at h
 split at h<;>cases h
 rfl
def ay:Cod B32:=cRow .u8 B32.to B32.of B32.of_to
section
variable {P:Program} {G:Glob} {α β γ δ:Type}
section
variable (f:FuncId) (fn:Func) (hf:P.funcs[f]? =some fn)
def con0 (h1:(fn.name== "runtime.NumGoroutine")=false) (h2:fn.body.isNone=false) (r:SV) (pre:Cst) (ids:r.ids=[])
  (run:Holds pre→dI P G f [] r):Con P G:=
 Con.of f fn hf h1 h2 (fun | []=>some (r,pre) | _=>none) fun args r' c h=>by
  split at h<;>cases h
  exact⟨ids,run⟩
def con1 (h1:(fn.name== "runtime.NumGoroutine")=false) (h2:fn.body.isNone=false) (ca:Cod α) (F:α→SV) (pre:α→Cst)
  (ids:∀a,(F a).ids=[]) (run:∀a,Holds (pre a)→dI P G f [ca.enc a] (F a)):Con P G:=
 Con.of f fn hf h1 h2 (fun
  | [x]=>match ca.dec x with
   | some a=>some (F a,pre a)
   | none=>none
  | _=>none) fun args r c h=>by
  split at h<;>try cases h
  split at h<;>try cases h
  rename_i ha
  rw[←ca.ok _ _ ha]
  exact⟨ids _,run _⟩
def con2 (h1:(fn.name== "runtime.NumGoroutine")=false) (h2:fn.body.isNone=false) (ca:Cod α) (cb:Cod β) (F:α→β→SV) (pre:α→β→Cst)
  (ids:∀a b,(F a b).ids=[]) (run:∀a b,Holds (pre a b)→dI P G f [ca.enc a,cb.enc b] (F a b)):Con P G:=
 Con.of f fn hf h1 h2 (fun
  | [x,y]=>match ca.dec x,cb.dec y with
   | some a,some b=>some (F a b,pre a b)
   | _,_=>none
  | _=>none) fun args r c h=>by
  split at h<;>try cases h
  split at h<;>try cases h
  rename_i ha hb
  rw[←ca.ok _ _ ha,←cb.ok _ _ hb]
  exact⟨ids _ _,run _ _⟩
def con3 (h1:(fn.name== "runtime.NumGoroutine")=false) (h2:fn.body.isNone=false) (ca:Cod α) (cb:Cod β) (cc:Cod γ) (F:α→β→γ→SV) (pre:α→β→γ→Cst)
  (ids:∀a b c,(F a b c).ids=[]) (run:∀a b c,Holds (pre a b c)→dI P G f [ca.enc a,cb.enc b,cc.enc c] (F a b c)):Con P G:=
 Con.of f fn hf h1 h2 (fun
  | [x,y,z]=>match ca.dec x,cb.dec y,cc.dec z with
   | some a,some b,some c=>some (F a b c,pre a b c)
   | _,_,_=>none
  | _=>none) fun args r c h=>by
  split at h<;>try cases h
  split at h<;>try cases h
  rename_i ha hb hc
  rw[←ca.ok _ _ ha,←cb.ok _ _ hb,←cc.ok _ _ hc]
  exact⟨ids _ _ _,run _ _ _⟩
end
end
abbrev u64 (n:Int):Atom:=aG .u64 n
abbrev u8 (n:Int):Atom:=aG .u8 n
def orU (a b:Int):Int:=bits .or .u64 a b
def shlU (a:Int) (n:Nat):Int:=IntKind.u64.wrap (a*2^n)
end Go.Eng

/- Contracts of callees that are handed a slice over a row that they only read. -/
import Derived.Test.YthlmepolmemejaaGreatDoorLMA
import Derived.Test.YthlmepolmemejaaGreatDoorLMF
import Derived.Test.YthlmepolmemejaaGreatDoorLMR
import Derived.Test.YthlmepolmemejaaGreatDoorLMP
set_option linter.unusedVariables false
namespace Go.Proofs.YthlmepolmemejaaGreatDoor
open Go Go.Eng Go.RowKit
def FnMem (P:Program) (G:Glob) (f:FuncId) (args:List SV) (blks:List Blk) (r:SV):Prop:=
 ∀fn c,P.funcs[f]? =some fn→fn.body=some c→aK P G blks.length c (aH fn args) blks (aN tys fn (bA r .none))
theorem FnMem.u7 {P:Program} {G:Glob} (hT:Ty.ok P tys) {f:FuncId} {fn:Func} (hf:P.funcs[f]? =some fn) {c:Code} (hb:fn.body=some c) {args:List SV} {blks:List Blk} {r:SV}
  (hrun:aK P G blks.length c (aH fn args) blks (Go.Eng.Ends tys fn r)) (hr:r.ids=[]) (hargs:((args.all fun x=>x.ids.all fun k=>Nat.blt k blks.length)&&(blks.all fun b=> !b.own))=true):FnMem P G f args blks r:=by
 intro fn' c' hf' hb'
 rw[hf] at hf'
 cases hf'
 rw[hb] at hb'
 cases hb'
 exact hrun
theorem enc_row {δ:Type} {c:Cod δ} {b:δ} {cs:List Atom} (h:c.enc b= .o (.g cs)):c.row b=cs:=by
 unfold Cod.row
 rw[h]
def Dec.slc (P:Program) {β:Type} (n:Nat) (cb:Cod β) (F:β→SV) (pre:β→Cst) (ids:∀b,(F b).ids=[]):Dec P (β × TypeId) where
 largs x:=[.o (.a (.slc 0 0 n n))]
 lblks x:=[⟨false,x.2,.lit (cb.row x.1)⟩]
 res x:=F x.1
 eff _:= .none
 pre x:=pre x.1
 inv _:=True
 dec m args:=match args with
  | [.o (.a (.slc k 0 l c))]=>match Nat.beq l n&&Nat.beq c n,m k with
   | true,some ⟨_,ty,.lit cs⟩=>match cb.dec (.o (.g cs)) with
    | some b=>some ((b,ty),[(k,0,none)])
    | none=>none
   | _,_=>none
  | _=>none
 ok m args x κ h hc:=by
  split at h<;>try cases h
  rename_i k l c
  split at h<;>try cases h
  rename_i own ty cs hlc hm
  split at h<;>cases h
  rename_i b hb
  rw[Bool.and_eq_true] at hlc
  have h1:=Nat.eq_of_beq_eq_true hlc.1
  have h2:=Nat.eq_of_beq_eq_true hlc.2
  subst h1 h2
  have hrow:=enc_row (cb.ok _ _ hb)
  have hids:bB (cb.row b)=[]:=by
   have:=cb.ids b
   rw[cb.ok _ _ hb] at this
   rw[hrow]
   exact this
  refine⟨trivial,⟨?_,?_⟩,fun β=> ?_⟩
  ·intro i bl hbl
   cases i with
   | zero=>
    simp only[List.getElem?_cons_zero,Option.some.injEq] at hbl
    subst hbl
    exact⟨_,hm,rfl,.inl ⟨hids,.inl ⟨rfl,rfl,fun β n C hC=>by rw[hrow];exact hC,fun h=>by cases h⟩⟩⟩
   | succ i=>simp at hbl
  ·intro i j bl cl hb hcl ho
   cases i with
   | zero=>simp at hb;rw[←hb] at ho;cases ho
   | succ i=>simp at hb
  ·simp[SV.den,SV1.den,Atom.den,jg,Loc.at]
 sm m args x κ h i hi:=by
  split at h<;>try cases h
  split at h<;>try cases h
  rename_i hm
  split at h<;>cases h
  have hi0:i=0:=by simp at hi;exact hi
  subst hi0
  simp[hm]
 loc m m' args h hd:=by
  clear hd
  split
  ·rename_i k l c
   rw[h (.o (.a (.slc k 0 l c))) (by simp) k (by simp[SV.ids,SV1.ids,Atom.ids])]
  ·rfl
 ids x y hy k hk:=by
  simp only[List.mem_singleton] at hy
  subst hy
  simp only[SV.ids,SV1.ids,Atom.ids,List.mem_singleton] at hk
  subst hk
  simp
 good x:=⟨ids _,fun b hb=>by simp at hb;rw[hb]⟩
noncomputable def conSlc {P:Program} {G:Glob} {β:Type} (hT:Ty.ok P tys) (f:FuncId) (fn:Func) (hf:P.funcs[f]? =some fn) (h1:(fn.name== "runtime.NumGoroutine")=false) {c:Code} (hb:fn.body=some c) (n:Nat) (cb:Cod β) (F:β→SV) (pre:β→Cst)
  (ids:∀b,(F b).ids=[]) (run:∀b ty,Holds (pre b)→FnMem P G f [.o (.a (.slc 0 0 n n))] [⟨false,ty,.lit (cb.row b)⟩] (F b)):Con P G:=
 Con.hand hT f fn hf h1 hb (Dec.slc P n cb F pre ids) (fun x hc _=>run x.1 x.2 hc fn c hf hb)
open Go Go.Eng
set_option maxRecDepth 100000
def o4:N4:=⟨6346243789798364141,1503914060200516822,0,1152921504606846976⟩
def bF:N4:=⟨0,0,0,0⟩
theorem sorder_fn:ay Tryz.prog GX 98 [] (cN4.enc o4):=
 ay.aD (Γ:=([]:Cons Tryz.prog GX)) ah mixed Tryz.func98 (n:=100) (orc:=[]) (cs:=[]) (by kernel_rfl) trivial rfl rfl
def yg:Con Tryz.prog GX:=con0 98 Tryz.f98 Tryz.func98 (by kernel_rfl) (by kernel_rfl) (cN4.enc o4) [] rfl (fun _=>sorder_fn)
theorem sbelow_fn (a b:N4):ay Tryz.prog GX 96 [cN4.enc a,cN4.enc b] (aY.enc (bV a b)):=by
 unfold bV
 cases h3:(a.l3 !=b.l3) with
 | true=>exact ay.aD (Γ:=([]:Cons Tryz.prog GX)) ah mixed Tryz.func96 (n:=100) (orc:=[(16,[true])]) (cs:=[(a.l3 !=b.l3)=true]) (by kernel_rfl) ⟨h3,trivial⟩ rfl rfl
 | false=>
  simp only
  unfold below2
  cases h2:(a.l2 !=b.l2) with
  | true=>exact ay.aD (Γ:=([]:Cons Tryz.prog GX)) ah mixed Tryz.func96 (n:=100) (orc:=[(16,[false,true])]) (cs:=[(a.l3 !=b.l3)=false,(a.l2 !=b.l2)=true]) (by kernel_rfl) ⟨h3,h2,trivial⟩ rfl rfl
  | false=>
   simp only
   unfold below1
   cases h1:(a.l1 !=b.l1) with
   | true=>exact ay.aD (Γ:=([]:Cons Tryz.prog GX)) ah mixed Tryz.func96 (n:=100) (orc:=[(16,[false,false,true])]) (cs:=[(a.l3 !=b.l3)=false,(a.l2 !=b.l2)=false,(a.l1 !=b.l1)=true]) (by kernel_rfl) ⟨h3,h2,h1,trivial⟩ rfl rfl
   | false=>
    simp only
    unfold below0
    cases h0:(a.l0 !=b.l0) with
    | true=>exact ay.aD (Γ:=([]:Cons Tryz.prog GX)) ah mixed Tryz.func96 (n:=100) (orc:=[(16,[false,false,false,true])]) (cs:=[(a.l3 !=b.l3)=false,(a.l2 !=b.l2)=false,(a.l1 !=b.l1)=false,(a.l0 !=b.l0)=true]) (by kernel_rfl) ⟨h3,h2,h1,h0,trivial⟩ rfl rfl
    | false=>exact ay.aD (Γ:=([]:Cons Tryz.prog GX)) ah mixed Tryz.func96 (n:=100) (orc:=[(16,[false,false,false,false])]) (cs:=[(a.l3 !=b.l3)=false,(a.l2 !=b.l2)=false,(a.l1 !=b.l1)=false,(a.l0 !=b.l0)=false]) (by kernel_rfl) ⟨h3,h2,h1,h0,trivial⟩ rfl rfl
def yu:Con Tryz.prog GX:=jA 96 Tryz.f96 Tryz.func96 (by kernel_rfl) (by kernel_rfl) (cN4) (cN4) (fun a b=>aY.enc (bV a b)) (fun _ _=>[]) (fun _ _=>rfl) (fun a b _=>sbelow_fn a b)
theorem sless_fn (a b:N4):ay Tryz.prog GX 119 [cN4.enc a,cN4.enc b] (cN4.enc (fD a b)):=
 ay.aD (Γ:=[zL]) ah mixed Tryz.func119 (n:=100) (orc:=[]) (cs:=[(0:Int).toNat≤1,(qZ a b).toNat≤1,(qW a b).toNat≤1,(qV a b).toNat≤1]) (by kernel_rfl)
  ⟨by decide,mK _ _ _,mK _ _ _,mK _ _ _,trivial⟩ rfl rfl
def sless_con:Con Tryz.prog GX:=jA 119 Tryz.f119 Tryz.func119 (by kernel_rfl) (by kernel_rfl) (cN4) (cN4) (fun a b=>cN4.enc (fD a b)) (fun _ _=>[]) (fun _ _=>rfl) (fun a b _=>sless_fn a b)
theorem sbytes_fn (a:N4):ay Tryz.prog GX 72 [(cN4).enc a] (ak.enc (fO a)):=
 ay.aD (Γ:=([]:Cons Tryz.prog GX)) ah mixed Tryz.func72 (n:=100) (orc:=[]) (cs:=[]) (by kernel_rfl) trivial rfl rfl
def sbytes_con:Con Tryz.prog GX:=fQ 72 Tryz.f72 Tryz.func72 (by kernel_rfl) (by kernel_rfl) (cN4) (fun a=>ak.enc (fO a)) (fun _=>[]) (fun _=>rfl) (fun a _=>sbytes_fn a)
def bM (a b:N4):N4:=match bV (eU a b) o4 with
 | true=>eU a b
 | false=>fD (eU a b) o4
theorem splus_fn (a b:N4) (hp:Holds [aj a,aj b]):ay Tryz.prog GX 71 [cN4.enc a,cN4.enc b] (cN4.enc (bM a b)):=by
 obtain⟨b0,b1,b2,b3,ok,e⟩:=qb hp.1 hp.2.1
 unfold bM
 cases h:bV (eU a b) o4 with
 | true=>
  exact ay.aD (Γ:=[ny,yu,sless_con,yg]) ah mixed Tryz.func71 (n:=100) (orc:=[(27,[true])])
   (cs:=[(0:Int).toNat≤1,(sum0 a b).toNat≤1,(sum1 a b).toNat≤1,(sum2 a b).toNat≤1,bV (eU a b) o4=true]) (by kernel_rfl)
   ⟨by decide,(dK b0).2,(dK b1).2,(dK b2).2,h,trivial⟩ rfl rfl
 | false=>
  exact ay.aD (Γ:=[ny,yu,sless_con,yg]) ah mixed Tryz.func71 (n:=100) (orc:=[(27,[false])])
   (cs:=[(0:Int).toNat≤1,(sum0 a b).toNat≤1,(sum1 a b).toNat≤1,(sum2 a b).toNat≤1,bV (eU a b) o4=false]) (by kernel_rfl)
   ⟨by decide,(dK b0).2,(dK b1).2,(dK b2).2,h,trivial⟩ rfl rfl
def zM:Con Tryz.prog GX:=jA 71 Tryz.f71 Tryz.func71 (by kernel_rfl) (by kernel_rfl) (cN4) (cN4) (fun a b=>cN4.enc (bM a b)) (fun a b=>[aj a,aj b]) (fun _ _=>rfl) (fun a b h=>splus_fn a b h)
def bP:Int:=7237005577332262213973186563042994240857116359379907606001950938285454250989
theorem o4_ok:aj o4:=by unfold aj Word;decide
theorem o4_val:N4V o4=bP:=by decide
theorem kg {a b:N4} (ha:aj a) (hb:aj b):aj (bM a b):=by
 obtain⟨b0,b1,b2,b3,ok,e⟩:=qb ha hb
 have hi:=kK ok o4_ok
 unfold bM
 cases h:bV (eU a b) o4 with
 | true=>exact ok
 | false=>
  have:¬N4V (eU a b)<N4V o4:=fun k=>by rw[hi.2 k] at h;cases h
  exact(qp ok o4_ok (by omega)).1
theorem rR {a b:N4} (ha:aj a) (hb:aj b) (la:N4V a<bP) (lb:N4V b<bP):N4V (bM a b)=(N4V a+N4V b)%bP:=by
 obtain⟨b0,b1,b2,b3,ok,e⟩:=qb ha hb
 have hi:=kK ok o4_ok
 rw[o4_val] at hi
 have va:=jH ha
 have vb:=jH hb
 have vs:=jH ok
 have hl:bP=7237005577332262213973186563042994240857116359379907606001950938285454250989:=rfl
 have es:N4V (eU a b)=N4V a+N4V b:=by omega
 unfold bM
 cases h:bV (eU a b) o4 with
 | true=>
  have:=hi.1 h
  simp only
  rw[es]
  exact(Int.emod_eq_of_lt (by omega) (by omega)).symm
 | false=>
  have hn:¬N4V (eU a b)<bP:=fun k=>by rw[hi.2 k] at h;cases h
  simp only
  rw[(qp ok o4_ok (by rw[o4_val];omega)).2,o4_val,es]
  refine(Int.emod_eq_of_lt (a:=N4V a+N4V b-bP) (b:=bP) (by omega) (by omega)).symm.trans ?_
  exact Int.sub_emod_right _ _
def lI (b:B32) (j:Nat):Bool:=(bits .and .u8 (eB (b.at (j/8)) (j%8)) 1)==1
def gX (f:Nat→Bool):Nat→Nat
 | 0=>0
 | k+1=>gX f k+2^k*(f k).toNat
theorem xg (f:Nat→Bool) (s w:Nat):∀n,(∀t,t<n→f (s+t)=decide (w/2^t%2=1))→gX f (s+n)=gX f s+2^s*(w%2^n)
 | 0,_=>by simp[Nat.mod_one]
 | n+1,h=>by
  have ih:=xg f s w n fun t ht=>h t (by omega)
  rw[←Nat.add_assoc,gX,ih,h n (by omega),Nat.mod_pow_succ,Nat.pow_add]
  have hb:(decide (w/2^n%2=1)).toNat=w/2^n%2:=by
   have:=Nat.mod_lt (w/2^n) (by decide:0<2)
   by_cases hc:w/2^n%2=1
   ·rw[decide_eq_true hc,hc];rfl
   ·rw[decide_eq_false hc]
    show 0=_
    omega
  rw[hb]
  grind
theorem and1 (x:Int) (h0:0≤x) (h1:x<256):bits .and .u8 x 1=x%2:=
 bits_mask .u8 8 (by decide) (fun n h₀ h₁=>by rw[IntKind.wrap_u8];omega) 1 (by decide) x h0 h1
theorem bitB_eq {b:B32} (hb:BOk b) (i t:Nat) (ht:t<8):lI b (8*i+t)=decide ((b.at i).toNat/2^t%2=1):=by
 obtain⟨h0,h1⟩:=hb i
 unfold lI
 rw[show(8*i+t)/8=i by omega,show(8*i+t)%8=t by omega,mh]
 generalize b.at i=x at*
 obtain⟨n,rfl⟩:=Int.eq_ofNat_of_zero_le h0
 have e:(n:Int)/2^t=((n/2^t:Nat):Int):=by simp
 have hle:n/2^t≤n:=Nat.div_le_self _ _
 rw[e,Int.toNat_natCast]
 generalize n/2^t=q at*
 rw[and1 _ (by omega) (by omega)]
 have e2:(q:Int)%2=((q%2:Nat):Int):=by simp
 rw[e2]
 by_cases hc:q%2=1
 ·rw[hc];rfl
 ·rw[decide_eq_false hc,beq_eq_false_iff_ne]
  omega
def vL (b:B32):Nat→Nat
 | 0=>0
 | k+1=>vL b k+256^k*(b.at k).toNat
theorem bsum_bytes {b:B32} (hb:BOk b):∀i,gX (lI b) (8*i)=vL b i
 | 0=>by rw[Nat.mul_zero,gX,vL]
 | i+1=>by
  rw[Nat.mul_succ,xg (lI b) (8*i) (b.at i).toNat 8 (fun t ht=>bitB_eq hb i t ht),bsum_bytes hb i,vL]
  have h1:=(hb i).2
  have h0:=(hb i).1
  rw[Nat.mod_eq_of_lt (by omega),Nat.pow_mul]
theorem rW {α β:Type} (x:α × β):(x.1,x.2)=x:=rfl
noncomputable def modS (b:B32):Nat→N4→N4
 | 0,o=>o
 | k+1,o=>modS b k (match lI b k with
  | true=>bM (bM o o) d9
  | false=>bM o o)
noncomputable def kQ (b:B32):N4:=modS b 256 bF
namespace smod
noncomputable abbrev fn:=Tryz.f70
noncomputable def body:Code:=bZ fn
noncomputable def A:Code:=cs1 body
noncomputable def B:Code:=cs1 (cs2 body)
noncomputable def C:Code:=cs1 (cs1 (cs2 (cs2 body)))
noncomputable def L:Code:=cL (cB (cs2 (cs1 (cs2 (cs2 body)))))
noncomputable def D:Code:=cs2 (cs2 (cs2 body))
theorem dX:body= .seq A (.seq B (.seq (.seq C (.block 0 (.loop L))) D)):=by kernel_rfl
noncomputable def Γ:Cons Tryz.prog GX:=[zM]
section
variable (b:B32) (ty:TypeId)
noncomputable def S (k:Nat) (o:N4) (g:Nat→SV):List SV × List Blk:=([.o (.a (.slc 0 0 32 32)),g 1,.o (.a (.ptr 1 0)),.o (.a (.ptr 2 0)),(av .i64).enc ((k:Int)-1),g 5,g 6,g 7,g 8,g 9,g 10,g 11,g 12,g 13,g 14,g 15,g 16,g 17,g 18,g 19,g 20,g 21,g 22,g 23,g 24,g 25,g 26,g 27,g 28,g 29,g 30],[⟨false,ty,ak.row b⟩,⟨true,99,cN4.row bF⟩,⟨true,99,cN4.row o⟩])
noncomputable def st (k:Nat) (o:N4) (g:Nat→SV) (r:Orc):St:=⟨(S b ty k o g).1,(S b ty k o g).2,r⟩
noncomputable def s0:St:=⟨aH fn [.o (.a (.slc 0 0 32 32))],[⟨false,ty,ak.row b⟩],[]⟩
noncomputable def s1:St:=dz Γ tys 100 A (s0 b ty)
theorem preA:exec Γ tys 100 A (s0 b ty)=some (.normal,⟨(s1 b ty).tm,(s1 b ty).mem,[]⟩,[]):=by kernel_rfl
noncomputable def s2:St:=dz Γ tys 100 B (s1 b ty)
theorem preB:exec Γ tys 100 B ⟨(s1 b ty).tm,(s1 b ty).mem,[]⟩=some (.normal,⟨(s2 b ty).tm,(s2 b ty).mem,[]⟩,[]):=by kernel_rfl
theorem preC:exec Γ tys 100 C ⟨(s2 b ty).tm,(s2 b ty).mem,[]⟩=some (.normal,st b ty 256 bF (outT Γ tys 100 C (s2 b ty)) [],[]):=by kernel_rfl
theorem tab1 (o:N4) (g:Nat→SV):tabL (fun j=>exec Γ tys 100 L (st b ty (j+1) o g [(26,[true])])) 256=tabR (fun j=>some (.normal,st b ty j (bM (bM o o) d9) (outT Γ tys 100 L (st b ty (j+1) o g [(26,[true])])) [(26,[])],[aj o,aj o,lI b j=true,aj (bM o o),aj d9])) 256:=by kernel_rfl
theorem tab0 (o:N4) (g:Nat→SV):tabL (fun j=>exec Γ tys 100 L (st b ty (j+1) o g [(26,[false])])) 256=tabR (fun j=>some (.normal,st b ty j (bM o o) (outT Γ tys 100 L (st b ty (j+1) o g [(26,[false])])) [(26,[])],[aj o,aj o,lI b j=false])) 256:=by kernel_rfl
theorem last (o:N4) (g:Nat→SV):exec Γ tys 100 L (st b ty 0 o g [])=some (.exit 0,st b ty 0 o (outT Γ tys 100 L (st b ty 0 o g [])) [],[]):=by kernel_rfl
noncomputable def fin (o:N4) (g:Nat→SV):St:=dz Γ tys 100 D (st b ty 0 o g [])
theorem post (o:N4) (g:Nat→SV):exec Γ tys 100 D (st b ty 0 o g [])=some (.ret,⟨(fin b ty o g).tm,(fin b ty o g).mem,[]⟩,[]):=by kernel_rfl
theorem result (o:N4) (g:Nat→SV):eRes tys (fin b ty o g).tm (fun k=>(fin b ty o g).mem[k]?) fn.results.toList=some [.g (cN4.row o)]:=by kernel_rfl
end
end smod
theorem qK:aj d9:=by unfold aj Word;decide
theorem smod_mem (b:B32) (ty:TypeId):FnMem Tryz.prog GX 70 [.o (.a (.slc 0 0 32 32))] [⟨false,ty,ak.row b⟩] (cN4.enc (kQ b)):=by
 refine FnMem.u7 ah Tryz.func70 (c:=smod.body) (by kernel_rfl) ?_ rfl rfl
 rw[smod.dX]
 refine Runs.seq (Runs.aQ ah mixed (smod.preA b ty) trivial ?_)
 refine Runs.seq (Runs.aQ ah mixed (smod.preB b ty) trivial ?_)
 refine Runs.seq (Runs.seq (Runs.aQ ah mixed (smod.preC b ty) trivial ?_))
 refine Runs.block ?_
 refine Runs.loop (fun(x:Nat × N4 × (Nat→SV))=>smod.S b ty x.1 x.2.1 x.2.2) (fun x=>x.1≤256∧aj x.2.1∧modS b x.1 x.2.1=kQ b) (fun x=>x.1) ?_ (256,bF,_) ⟨Nat.le_refl _,gy,rfl⟩
 rintro⟨k,o,g⟩ ⟨hk,ho,hr⟩
 simp only at hk ho hr
 cases k with
 | zero=>
  refine Runs.aQ ah mixed (smod.last b ty o g) trivial ?_
  show aK Tryz.prog GX _ smod.D _ _ _
  refine Runs.aQ ah mixed (smod.post b ty o _) trivial (Ends.ret (smod.result b ty o _) ?_)
  rw[←hr]
  rfl
 | succ k=>
  have hoo:=kg ho ho
  cases hb:lI b k with
  | true=>
   refine Runs.aQ ah mixed (jU (smod.tab1 b ty o g) k (by omega)) ⟨ho,ho,hb,hoo,qK,trivial⟩ ?_
   exact⟨(k,bM (bM o o) d9,outT smod.Γ tys 100 smod.L (smod.st b ty (k+1) o g [(26,[true])])),rW _,⟨by simp only;omega,kg hoo qK,by rw[←hr];simp only[modS,hb]⟩,Nat.lt_succ_self _⟩
  | false=>
   refine Runs.aQ ah mixed (jU (smod.tab0 b ty o g) k (by omega)) ⟨ho,ho,hb,trivial⟩ ?_
   exact⟨(k,bM o o,outT smod.Γ tys 100 smod.L (smod.st b ty (k+1) o g [(26,[false])])),rW _,⟨by simp only;omega,hoo,by rw[←hr];simp only[modS,hb]⟩,Nat.lt_succ_self _⟩
noncomputable def smod_con:Con Tryz.prog GX:=conSlc ah 70 Tryz.f70 Tryz.func70 (by kernel_rfl) (c:=smod.body) (by kernel_rfl) 32 ak (fun b=>cN4.enc (kQ b)) (fun _=>[]) (fun _=>rfl) (fun b ty _=>smod_mem b ty)
theorem modS_ok {b:B32}:∀(k:Nat) (o:N4),aj o→aj (modS b k o)
 | 0,o,ho=>ho
 | k+1,o,ho=>by
  unfold modS
  have hoo:=kg ho ho
  cases lI b k with
  | true=>exact modS_ok k _ (kg hoo qK)
  | false=>exact modS_ok k _ hoo
theorem modN_ok (b:B32):aj (kQ b):=modS_ok 256 _ gy
noncomputable def lU (x y:N4):Nat→N4→N4
 | 0,o=>o
 | k+1,o=>lU x y k (match jO x k with
  | true=>bM (bM o o) y
  | false=>bM o o)
namespace smul
noncomputable abbrev fn:=Tryz.f39
noncomputable def body:Code:=bZ fn
noncomputable def A:Code:=cs1 body
noncomputable def B:Code:=cs1 (cs2 body)
noncomputable def B2:Code:=cs1 (cs2 (cs2 body))
noncomputable def C:Code:=cs1 (cs1 (cs2 (cs2 (cs2 body))))
noncomputable def L:Code:=cL (cB (cs2 (cs1 (cs2 (cs2 (cs2 body))))))
noncomputable def D:Code:=cs2 (cs2 (cs2 (cs2 body)))
theorem dX:body= .seq A (.seq B (.seq B2 (.seq (.seq C (.block 0 (.loop L))) D))):=by kernel_rfl
noncomputable def Γ:Cons Tryz.prog GX:=[smod_con,zM,sbytes_con]
section
variable (a b c:B32)
noncomputable def S (x y:N4) (k:Nat) (o:N4) (g:Nat→SV):List SV × List Blk:=([ak.enc a,ak.enc b,ak.enc c,.o (.a (.ptr 0 0)),.o (.a (.ptr 1 0)),.o (.a (.ptr 2 0)),.o (.a (.ptr 3 0)),.o (.a (.ptr 4 0)),.o (.a (.ptr 5 0)),.o (.a (.ptr 6 0)),(av .i64).enc ((k:Int)-1),g 11,g 12,g 13,g 14,g 15,g 16,g 17,g 18,g 19,g 20,g 21,g 22,g 23,g 24,g 25,g 26,g 27,g 28,g 29,g 30,g 31,g 32,g 33,g 34,g 35,g 36,g 37,g 38,g 39],[⟨true,26,ak.row a⟩,⟨true,26,ak.row b⟩,⟨true,26,ak.row c⟩,⟨true,26,ak.row aM⟩,⟨true,99,cN4.row x⟩,⟨true,99,cN4.row y⟩,⟨true,99,cN4.row o⟩])
noncomputable def st (x y:N4) (k:Nat) (o:N4) (g:Nat→SV) (r:Orc):St:=⟨(S a b c x y k o g).1,(S a b c x y k o g).2,r⟩
noncomputable def s0 (x y:N4):St:=⟨aH fn [ak.enc a,ak.enc b,ak.enc c],[],[]⟩
noncomputable def s1 (x y:N4):St:=dz Γ tys 100 A (s0 a b c x y)
theorem preA (x y:N4):exec Γ tys 100 A (s0 a b c x y)=some (.normal,⟨(s1 a b c x y).tm,(s1 a b c x y).mem,[]⟩,[]):=by kernel_rfl
noncomputable def s2 (x y:N4):St:=dz Γ tys 100 B ⟨(s1 a b c x y).tm,(s1 a b c x y).mem,[(12,[.s (cN4.enc x)]),(14,[.s (cN4.enc y)])]⟩
theorem preB (x y:N4):exec Γ tys 100 B ⟨(s1 a b c x y).tm,(s1 a b c x y).mem,[(12,[.s (cN4.enc x)]),(14,[.s (cN4.enc y)])]⟩=some (.normal,⟨(s2 a b c x y).tm,(s2 a b c x y).mem,[(12,[]),(14,[])]⟩,[cN4.enc (kQ a)=cN4.enc x,cN4.enc (kQ b)=cN4.enc y]):=by kernel_rfl
noncomputable def s3 (x y:N4):St:=dz Γ tys 100 B2 (s2 a b c x y)
theorem preB2 (x y:N4):exec Γ tys 100 B2 ⟨(s2 a b c x y).tm,(s2 a b c x y).mem,[]⟩=some (.normal,⟨(s3 a b c x y).tm,(s3 a b c x y).mem,[]⟩,[]):=by kernel_rfl
theorem preC (x y:N4):exec Γ tys 100 C ⟨(s3 a b c x y).tm,(s3 a b c x y).mem,[]⟩=some (.normal,st a b c x y 256 bF (outT Γ tys 100 C (s3 a b c x y)) [],[]):=by kernel_rfl
theorem tab1 (x y:N4) (o:N4) (g:Nat→SV):tabL (fun j=>exec Γ tys 100 L (st a b c x y (j+1) o g [(31,[true])])) 256=tabR (fun j=>some (.normal,st a b c x y j (bM (bM o o) y) (outT Γ tys 100 L (st a b c x y (j+1) o g [(31,[true])])) [(31,[])],[aj o,aj o,jO x j=true,aj (bM o o),aj y])) 256:=by kernel_rfl
theorem tab0 (x y:N4) (o:N4) (g:Nat→SV):tabL (fun j=>exec Γ tys 100 L (st a b c x y (j+1) o g [(31,[false])])) 256=tabR (fun j=>some (.normal,st a b c x y j (bM o o) (outT Γ tys 100 L (st a b c x y (j+1) o g [(31,[false])])) [(31,[])],[aj o,aj o,jO x j=false])) 256:=by kernel_rfl
theorem last (x y:N4) (o:N4) (g:Nat→SV):exec Γ tys 100 L (st a b c x y 0 o g [])=some (.exit 0,st a b c x y 0 o (outT Γ tys 100 L (st a b c x y 0 o g [])) [],[]):=by kernel_rfl
noncomputable def fin (x y:N4) (o:N4) (g:Nat→SV):St:=dz Γ tys 100 D (st a b c x y 0 o g [])
theorem post (x y:N4) (o:N4) (g:Nat→SV):exec Γ tys 100 D (st a b c x y 0 o g [])=some (.ret,⟨(fin a b c x y o g).tm,(fin a b c x y o g).mem,[]⟩,[aj o,aj (kQ c)]):=by kernel_rfl
theorem result (x y:N4) (o:N4) (g:Nat→SV):eRes tys (fin a b c x y o g).tm (fun k=>(fin a b c x y o g).mem[k]?) fn.results.toList=some [.g (ak.row (fO (bM o (kQ c))))]:=by kernel_rfl
end
end smul
noncomputable def smulN (a b:B32):N4:=lU (kQ a) (kQ b) 256 bF
noncomputable def smulB (a b c:B32):B32:=fO (bM (smulN a b) (kQ c))
theorem smul_loop (a b c:B32) (x y:N4) (hy:aj y) (g:Nat→SV) {Post:Ex→List SV→List Blk→Prop} (hp:∀o g',aj o→o=lU x y 256 bF→Post .normal (smul.S a b c x y 0 o g').1 (smul.S a b c x y 0 o g').2):
  Runs Tryz.prog GX (.block 0 (.loop smul.L)) (smul.S a b c x y 256 bF g).1 (smul.S a b c x y 256 bF g).2 Post:=by
 refine Runs.block ?_
 refine Runs.loop (fun(t:Nat × N4 × (Nat→SV))=>smul.S a b c x y t.1 t.2.1 t.2.2) (fun t=>t.1≤256∧aj t.2.1∧lU x y t.1 t.2.1=lU x y 256 bF) (fun t=>t.1) ?_ (256,bF,g) ⟨Nat.le_refl _,gy,rfl⟩
 rintro⟨k,o,g⟩ ⟨hk,ho,hr⟩
 simp only at hk ho hr
 cases k with
 | zero=>
  rw[lU] at hr
  exact Runs.aQ ah mixed (smul.last a b c x y o g) trivial (hp _ _ ho hr)
 | succ k=>
  have hoo:=kg ho ho
  cases hb:jO x k with
  | true=>
   exact Runs.aQ ah mixed (jU (smul.tab1 a b c x y o g) k (by omega)) ⟨ho,ho,hb,hoo,hy,trivial⟩
    ⟨(k,bM (bM o o) y,outT smul.Γ tys 100 smul.L (smul.st a b c x y (k+1) o g [(31,[true])])),rW _,⟨by simp only;omega,kg hoo hy,by rw[←hr];simp only[lU,hb]⟩,Nat.lt_succ_self _⟩
  | false=>
   exact Runs.aQ ah mixed (jU (smul.tab0 a b c x y o g) k (by omega)) ⟨ho,ho,hb,trivial⟩
    ⟨(k,bM o o,outT smul.Γ tys 100 smul.L (smul.st a b c x y (k+1) o g [(31,[false])])),rW _,⟨by simp only;omega,hoo,by rw[←hr];simp only[lU,hb]⟩,Nat.lt_succ_self _⟩
theorem smul_last (a b c:B32) (x y o:N4) (g:Nat→SV) (ho:aj o):Runs Tryz.prog GX smul.D (smul.S a b c x y 0 o g).1 (smul.S a b c x y 0 o g).2 (Go.Eng.Ends tys smul.fn (ak.enc (fO (bM o (kQ c))))):=
 Runs.aQ ah mixed (smul.post a b c x y o g) ⟨ho,modN_ok c,trivial⟩ (Ends.ret (smul.result a b c x y o g) rfl)
theorem smul_fn (a b c:B32):ay Tryz.prog GX 39 [ak.enc a,ak.enc b,ak.enc c] (ak.enc (smulB a b c)):=by
 refine ay.u7 ah Tryz.func39 (c:=smul.body) (by kernel_rfl) ?_ rfl rfl
 rw[smul.dX]
 refine Runs.seq (Runs.aQ ah mixed (smul.preA a b c (kQ a) (kQ b)) trivial ?_)
 refine Runs.seq (Runs.aQ ah mixed (smul.preB a b c (kQ a) (kQ b)) ⟨rfl,rfl,trivial⟩ ?_)
 refine Runs.seq (Runs.aQ ah mixed (smul.preB2 a b c (kQ a) (kQ b)) trivial ?_)
 refine Runs.seq (Runs.seq (Runs.aQ ah mixed (smul.preC a b c (kQ a) (kQ b)) trivial ?_))
 refine smul_loop a b c (kQ a) (kQ b) (modN_ok b) _ fun o g' ho hr=> ?_
 have he:=smul_last a b c (kQ a) (kQ b) o g' ho
 rw[hr] at he ⊢
 exact he
noncomputable def smul_con:Con Tryz.prog GX:=con3 39 Tryz.f39 Tryz.func39 (by kernel_rfl) (by kernel_rfl) (ak) (ak) (ak) (fun a b c=>ak.enc (smulB a b c)) (fun _ _ _=>[]) (fun _ _ _=>rfl) (fun a b c _=>smul_fn a b c)
structure P16 where
 x:N4
 y:N4
 z:N4
 t:N4
def P16.to (p:P16):List Int:=[p.x.l0,p.x.l1,p.x.l2,p.x.l3,p.y.l0,p.y.l1,p.y.l2,p.y.l3,p.z.l0,p.z.l1,p.z.l2,p.z.l3,p.t.l0,p.t.l1,p.t.l2,p.t.l3]
def P16.of:List Int→Option P16
 | [a0,a1,a2,a3,b0,b1,b2,b3,c0,c1,c2,c3,d0,d1,d2,d3]=>some ⟨⟨a0,a1,a2,a3⟩,⟨b0,b1,b2,b3⟩,⟨c0,c1,c2,c3⟩,⟨d0,d1,d2,d3⟩⟩
 | _=>none
theorem P16.iV:∀l a,P16.of l=some a→P16.to a=l:=by
 intro l a h
 unfold P16.of at h
 split at h<;>cases h
 rfl
def cQ:Cod P16:=cRow .u64 P16.to P16.of P16.iV
def QOk (p:P16):Prop:=aj p.x∧aj p.y∧aj p.z∧aj p.t
def d4:N4:=⟨8496970652267935907,31536524315187371,10144147576115030168,5909686906226998899⟩
theorem rD_fn:ay Tryz.prog GX 107 [] (cN4.enc d4):=
 ay.aD (Γ:=([]:Cons Tryz.prog GX)) ah mixed Tryz.func107 (n:=100) (orc:=[]) (cs:=[]) (by kernel_rfl) trivial rfl rfl
def uH:Con Tryz.prog GX:=con0 107 Tryz.f107 Tryz.func107 (by kernel_rfl) (by kernel_rfl) (cN4.enc d4) [] rfl (fun _=>rD_fn)
def nI:P16:=⟨bF,d9,d9,bF⟩
theorem qneutral_fn:ay Tryz.prog GX 110 [] (cQ.enc nI):=
 ay.aD (Γ:=[kF]) ah mixed Tryz.func110 (n:=100) (orc:=[]) (cs:=[]) (by kernel_rfl) trivial rfl rfl
noncomputable def qneutral_con:Con Tryz.prog GX:=con0 110 Tryz.f110 Tryz.func110 (by kernel_rfl) (by kernel_rfl) (cQ.enc nI) [] rfl (fun _=>qneutral_fn)
noncomputable def sumA (p q:P16):N4:=aU (bT p.y p.x) (bT q.y q.x)
noncomputable def sumB (p q:P16):N4:=aU (fH p.y p.x) (fH q.y q.x)
noncomputable def sumC (p q:P16):N4:=aU (aU p.t q.t) (fH d4 d4)
noncomputable def jw (p q:P16):N4:=aU (fH p.z p.z) q.z
noncomputable def mixQ (a b c d:N4):P16:=⟨aU (bT b a) (bT d c),aU (fH d c) (fH b a),aU (bT d c) (fH d c),aU (bT b a) (fH b a)⟩
noncomputable def jV (p q:P16):P16:=mixQ (sumA p q) (sumB p q) (sumC p q) (jw p q)
theorem iI:aj d9:=by unfold aj Word;decide
theorem pV:aj d4:=by unfold aj Word;decide
theorem jZ {a b:N4} (ha:aj a) (hb:aj b):aj (fH a b):=(zX ha hb).1
theorem kE {a b:N4} (ha:aj a) (hb:aj b):aj (bT a b):=(minusN_val ha hb).1
theorem gJ {a b:N4} (ha:aj a) (hb:aj b):aj (aU a b):=(je ha hb).1
theorem qsum_fn (p q:P16) (hp:Holds [QOk p,QOk q]):ay Tryz.prog GX 59 [cQ.enc p,cQ.enc q] (cQ.enc (jV p q)):=by
 obtain⟨⟨px,py,pz,pt⟩,⟨qx,qy,qz,qt⟩,-⟩:=hp
 have a1:=kE py px
 have a2:=kE qy qx
 have b1:=jZ py px
 have b2:=jZ qy qx
 have c1:=gJ pt qt
 have c2:=jZ pV pV
 have e1:=jZ pz pz
 have a:aj (sumA p q):=gJ a1 a2
 have b:aj (sumB p q):=gJ b1 b2
 have c:aj (sumC p q):=gJ c1 c2
 have d:aj (jw p q):=gJ e1 qz
 have e:=kE b a
 have f:=kE d c
 have g:=jZ d c
 have h:=jZ b a
 exact ay.aD (Γ:=[jf,mQ,lD,uH]) ah mixed Tryz.func59 (n:=100) (orc:=[])
  (cs:=[aj p.y,aj p.x,aj q.y,aj q.x,aj (bT p.y p.x),aj (bT q.y q.x),aj p.y,aj p.x,aj q.y,aj q.x,aj (fH p.y p.x),aj (fH q.y q.x),aj p.t,aj q.t,aj d4,aj d4,aj (aU p.t q.t),aj (fH d4 d4),
   aj p.z,aj p.z,aj (fH p.z p.z),aj q.z,aj (sumB p q),aj (sumA p q),aj (jw p q),aj (sumC p q),aj (jw p q),aj (sumC p q),aj (sumB p q),aj (sumA p q),
   aj (bT (sumB p q) (sumA p q)),aj (bT (jw p q) (sumC p q)),aj (fH (jw p q) (sumC p q)),aj (fH (sumB p q) (sumA p q)),aj (bT (jw p q) (sumC p q)),aj (fH (jw p q) (sumC p q)),aj (bT (sumB p q) (sumA p q)),aj (fH (sumB p q) (sumA p q))]) (by kernel_rfl)
  ⟨py,px,qy,qx,a1,a2,py,px,qy,qx,b1,b2,pt,qt,pV,pV,c1,c2,pz,pz,e1,qz,b,a,d,c,d,c,b,a,e,f,g,h,f,g,e,h,trivial⟩ rfl rfl
noncomputable def qsum_con:Con Tryz.prog GX:=jA 59 Tryz.f59 Tryz.func59 (by kernel_rfl) (by kernel_rfl) (cQ) (cQ) (fun p q=>cQ.enc (jV p q)) (fun p q=>[QOk p,QOk q]) (fun _ _=>rfl) (fun p q h=>qsum_fn p q h)
theorem sumQ_ok {p q:P16} (hp:QOk p) (hq:QOk q):QOk (jV p q):=by
 obtain⟨px,py,pz,pt⟩:=hp
 obtain⟨qx,qy,qz,qt⟩:=hq
 have a:aj (sumA p q):=gJ (kE py px) (kE qy qx)
 have b:aj (sumB p q):=gJ (jZ py px) (jZ qy qx)
 have c:aj (sumC p q):=gJ (gJ pt qt) (jZ pV pV)
 have d:aj (jw p q):=gJ (jZ pz pz) qz
 exact⟨gJ (kE b a) (kE d c),gJ (jZ d c) (jZ b a),gJ (kE d c) (jZ d c),gJ (kE b a) (jZ b a)⟩
noncomputable def negQ (p:P16):P16:=⟨bT bF p.x,p.y,p.z,bT bF p.t⟩
theorem qminus_fn (p:P16) (hp:Holds [QOk p]):ay Tryz.prog GX 61 [cQ.enc p] (cQ.enc (negQ p)):=
 ay.aD (Γ:=[kF,lD]) ah mixed Tryz.func61 (n:=100) (orc:=[]) (cs:=[aj bF,aj p.x,aj bF,aj p.t]) (by kernel_rfl) ⟨gy,hp.1.1,gy,hp.1.2.2.2,trivial⟩ rfl rfl
noncomputable def qminus_con:Con Tryz.prog GX:=fQ 61 Tryz.f61 Tryz.func61 (by kernel_rfl) (by kernel_rfl) (cQ) (fun p=>cQ.enc (negQ p)) (fun p=>[QOk p]) (fun _=>rfl) (fun p h=>qminus_fn p h)
noncomputable def qX (p:P16):N4:=bX (aU p.x (jc p.z))
noncomputable def qY (p:P16):B32:=fO (bX (aU p.y (jc p.z)))
noncomputable def encQ (p:P16):B32:=set31 (qY p) (bits .or .u8 (qY p).b31 (IntKind.u8.wrap (IntKind.u8.wrap ((qX p).l0.tmod 2)*2^7)))
theorem inv_ok {a:N4} (ha:aj a):aj (jc a):=(invN_val ha).1
theorem qenc_fn (p:P16) (hp:Holds [QOk p]):ay Tryz.prog GX 58 [cQ.enc p] (ak.enc (encQ p)):=by
 obtain⟨⟨px,py,pz,pt⟩,-⟩:=hp
 have hi:=inv_ok pz
 exact ay.aD (Γ:=[kP,jf,iL,rbytes_con]) ah mixed Tryz.func58 (n:=100) (orc:=[])
  (cs:=[aj p.z,aj p.x,aj (jc p.z),aj (aU p.x (jc p.z)),aj p.y,aj (jc p.z),aj (aU p.y (jc p.z))]) (by kernel_rfl)
  ⟨pz,px,hi,gJ px hi,py,hi,gJ py hi,trivial⟩ rfl rfl
noncomputable def yI:Con Tryz.prog GX:=fQ 58 Tryz.f58 Tryz.func58 (by kernel_rfl) (by kernel_rfl) (cQ) (fun p=>ak.enc (encQ p)) (fun p=>[QOk p]) (fun _=>rfl) (fun p h=>qenc_fn p h)
noncomputable def qy (b:B32):N4:=dM (bH b)
noncomputable def qyy (b:B32):N4:=aU (qy b) (qy b)
noncomputable def qu (b:B32):N4:=bT (qyy b) d9
noncomputable def qv (b:B32):N4:=fH (aU d4 (qyy b)) d9
noncomputable def qq (b:B32):N4:=aU (qu b) (jc (qv b))
noncomputable def qr (b:B32):N4:=bX (rt1 (qq b))
noncomputable def qpar (b:B32):Bool:=IntKind.u8.wrap ((qr b).l0.tmod 2) !=b.b31.fdiv (2^7)
noncomputable def qx (b:B32):N4:=match qpar b with
 | true=>bX (bT bF (qr b))
 | false=>qr b
def noneQ:P16:=⟨bF,bF,bF,bF⟩
noncomputable def qOk (b:B32):Bool:=match bV (dM (bH b)) p4 with
 | false=>false
 | true=>match rtOk (qq b) with
  | false=>false
  | true=>match eqI (qr b).to bF.to with
   | false=>true
   | true=> !(b.b31.fdiv (2^7)==1)
noncomputable def qP (b:B32):P16:=match qOk b with
 | false=>noneQ
 | true=>⟨qx b,qy b,d9,aU (qx b) (qy b)⟩
noncomputable def ji (p:P16) (b:Bool):SV:= .t [.g (cQ.row p),.a (iO b)]
theorem yS {a:N4} (ha:aj a):aj (bX a):=(sW ha).1
theorem qdec_ok {b:B32} (hb:BOk b):aj (qy b)∧aj (qyy b)∧aj (qu b)∧aj (aU d4 (qyy b))∧aj (qv b)∧aj (jc (qv b))∧aj (qq b)∧aj (qr b):=by
 have hy:=(uO (mX hb).1).1
 have hyy:=gJ hy hy
 have hu:=kE hyy iI
 have hdv:=gJ pV hyy
 have hv:=jZ hdv iI
 have hi:=inv_ok hv
 have hq:=gJ hu hi
 exact⟨hy,hyy,hu,hdv,hv,hi,hq,yS (rt1_val hq).1⟩
theorem qx_ok {b:B32} (hb:BOk b):aj (qx b):=by
 have hr:=(qdec_ok hb).2.2.2.2.2.2.2
 unfold qx
 cases qpar b with
 | true=>exact yS (kE gy hr)
 | false=>exact hr
theorem noneQ_ok:QOk noneQ:=⟨gy,gy,gy,gy⟩
theorem qP_ok {b:B32} (hb:BOk b):QOk (qP b):=by
 unfold qP
 cases qOk b with
 | false=>exact noneQ_ok
 | true=>exact⟨qx_ok hb,(qdec_ok hb).1,iI,gJ (qx_ok hb) (qdec_ok hb).1⟩
theorem qdec_noroot (b:B32) (y yy u dv v iv q r m x:N4) (h1:bV (dM (bH b)) p4=true) (ey:cN4.enc (dM (bH b))=cN4.enc y) (eyy:cN4.enc (aU y y)=cN4.enc yy) (eu:cN4.enc (bT yy d9)=cN4.enc u) (edv:cN4.enc (aU d4 yy)=cN4.enc dv) (ev:cN4.enc (fH dv d9)=cN4.enc v) (eiv:cN4.enc (jc v)=cN4.enc iv) (eq:cN4.enc (aU u iv)=cN4.enc q) (ky:aj y) (kyy:aj yy) (ku:aj u) (kdv:aj dv) (kv:aj v) (kiv:aj iv) (kq:aj q) (h2:gP (bX (rt1 q)) (rtOk q)=gP r false):
  ay Tryz.prog GX 56 [ak.enc b] (ji noneQ false):=
 ay.aD (Γ:=[jX,nZ,jf,kF,lD,uH,mQ,kP,qg,iL]) ah mixed Tryz.func56 (n:=100) (orc:=[(17,[true]),(21,[.s (cN4.enc y)]),(24,[.s (cN4.enc yy)]),(28,[.s (cN4.enc u)]),(31,[.s (cN4.enc dv)]),(33,[.s (cN4.enc v)]),(34,[.s (cN4.enc iv)]),(35,[.s (cN4.enc q)]),(36,[.s (gP r false)])])
  (cs:=[bV (dM (bH b)) p4=true,cN4.enc (dM (bH b))=cN4.enc y,aj y,aj y,cN4.enc (aU y y)=cN4.enc yy,aj yy,aj d9,cN4.enc (bT yy d9)=cN4.enc u,aj d4,aj yy,cN4.enc (aU d4 yy)=cN4.enc dv,aj dv,aj d9,cN4.enc (fH dv d9)=cN4.enc v,aj v,cN4.enc (jc v)=cN4.enc iv,aj u,aj iv,cN4.enc (aU u iv)=cN4.enc q,aj q,gP (bX (rt1 q)) (rtOk q)=gP r false]) (by kernel_rfl)
  ⟨h1,ey,ky,ky,eyy,kyy,iI,eu,pV,kyy,edv,kdv,iI,ev,kv,eiv,ku,kiv,eq,kq,h2,trivial⟩ rfl rfl
theorem qdec_odd0 (b:B32) (y yy u dv v iv q r m x:N4) (h1:bV (dM (bH b)) p4=true) (ey:cN4.enc (dM (bH b))=cN4.enc y) (eyy:cN4.enc (aU y y)=cN4.enc yy) (eu:cN4.enc (bT yy d9)=cN4.enc u) (edv:cN4.enc (aU d4 yy)=cN4.enc dv) (ev:cN4.enc (fH dv d9)=cN4.enc v) (eiv:cN4.enc (jc v)=cN4.enc iv) (eq:cN4.enc (aU u iv)=cN4.enc q) (ky:aj y) (kyy:aj yy) (ku:aj u) (kdv:aj dv) (kv:aj v) (kiv:aj iv) (kq:aj q) (h2:gP (bX (rt1 q)) (rtOk q)=gP r true) (h3:eqI r.to bF.to=true) (h4:(b.b31.fdiv (2^7)==1)=true):
  ay Tryz.prog GX 56 [ak.enc b] (ji noneQ false):=
 ay.aD (Γ:=[jX,nZ,jf,kF,lD,uH,mQ,kP,qg,iL]) ah mixed Tryz.func56 (n:=100) (orc:=[(17,[true]),(21,[.s (cN4.enc y)]),(24,[.s (cN4.enc yy)]),(28,[.s (cN4.enc u)]),(31,[.s (cN4.enc dv)]),(33,[.s (cN4.enc v)]),(34,[.s (cN4.enc iv)]),(35,[.s (cN4.enc q)]),(36,[.s (gP r true)]),(44,[true]),(47,[true])])
  (cs:=[bV (dM (bH b)) p4=true,cN4.enc (dM (bH b))=cN4.enc y,aj y,aj y,cN4.enc (aU y y)=cN4.enc yy,aj yy,aj d9,cN4.enc (bT yy d9)=cN4.enc u,aj d4,aj yy,cN4.enc (aU d4 yy)=cN4.enc dv,aj dv,aj d9,cN4.enc (fH dv d9)=cN4.enc v,aj v,cN4.enc (jc v)=cN4.enc iv,aj u,aj iv,cN4.enc (aU u iv)=cN4.enc q,aj q,gP (bX (rt1 q)) (rtOk q)=gP r true,eqI r.to bF.to=true,(b.b31.fdiv (2^7)==1)=true]) (by kernel_rfl)
  ⟨h1,ey,ky,ky,eyy,kyy,iI,eu,pV,kyy,edv,kdv,iI,ev,kv,eiv,ku,kiv,eq,kq,h2,h3,h4,trivial⟩ rfl rfl
theorem qdec_par_a (b:B32) (y yy u dv v iv q r m x:N4) (h1:bV (dM (bH b)) p4=true) (ey:cN4.enc (dM (bH b))=cN4.enc y) (eyy:cN4.enc (aU y y)=cN4.enc yy) (eu:cN4.enc (bT yy d9)=cN4.enc u) (edv:cN4.enc (aU d4 yy)=cN4.enc dv) (ev:cN4.enc (fH dv d9)=cN4.enc v) (eiv:cN4.enc (jc v)=cN4.enc iv) (eq:cN4.enc (aU u iv)=cN4.enc q) (ky:aj y) (kyy:aj yy) (ku:aj u) (kdv:aj dv) (kv:aj v) (kiv:aj iv) (kq:aj q) (h2:gP (bX (rt1 q)) (rtOk q)=gP r true) (h3:eqI r.to bF.to=false) (h5:(IntKind.u8.wrap (r.l0.tmod 2) !=b.b31.fdiv (2^7))=true) (kr:aj r) (em:cN4.enc (bT bF r)=cN4.enc m) (km:aj m) (ex:cN4.enc (bX m)=cN4.enc x) (kx:aj x):
  ay Tryz.prog GX 56 [ak.enc b] (ji ⟨x,y,d9,aU x y⟩ true):=
 ay.aD (Γ:=[jX,nZ,jf,kF,lD,uH,mQ,kP,qg,iL]) ah mixed Tryz.func56 (n:=100) (orc:=[(17,[true]),(21,[.s (cN4.enc y)]),(24,[.s (cN4.enc yy)]),(28,[.s (cN4.enc u)]),(31,[.s (cN4.enc dv)]),(33,[.s (cN4.enc v)]),(34,[.s (cN4.enc iv)]),(35,[.s (cN4.enc q)]),(36,[.s (gP r true)]),(44,[false]),(55,[true]),(58,[.s (cN4.enc m)]),(59,[.s (cN4.enc x)])])
  (cs:=[bV (dM (bH b)) p4=true,cN4.enc (dM (bH b))=cN4.enc y,aj y,aj y,cN4.enc (aU y y)=cN4.enc yy,aj yy,aj d9,cN4.enc (bT yy d9)=cN4.enc u,aj d4,aj yy,cN4.enc (aU d4 yy)=cN4.enc dv,aj dv,aj d9,cN4.enc (fH dv d9)=cN4.enc v,aj v,cN4.enc (jc v)=cN4.enc iv,aj u,aj iv,cN4.enc (aU u iv)=cN4.enc q,aj q,gP (bX (rt1 q)) (rtOk q)=gP r true,eqI r.to bF.to=false,(IntKind.u8.wrap (r.l0.tmod 2) !=b.b31.fdiv (2^7))=true,aj bF,aj r,cN4.enc (bT bF r)=cN4.enc m,aj m,cN4.enc (bX m)=cN4.enc x,aj x,aj y]) (by kernel_rfl)
  ⟨h1,ey,ky,ky,eyy,kyy,iI,eu,pV,kyy,edv,kdv,iI,ev,kv,eiv,ku,kiv,eq,kq,h2,h3,h5,gy,kr,em,km,ex,kx,ky,trivial⟩ rfl rfl
theorem qdec_nopar_a (b:B32) (y yy u dv v iv q r m x:N4) (h1:bV (dM (bH b)) p4=true) (ey:cN4.enc (dM (bH b))=cN4.enc y) (eyy:cN4.enc (aU y y)=cN4.enc yy) (eu:cN4.enc (bT yy d9)=cN4.enc u) (edv:cN4.enc (aU d4 yy)=cN4.enc dv) (ev:cN4.enc (fH dv d9)=cN4.enc v) (eiv:cN4.enc (jc v)=cN4.enc iv) (eq:cN4.enc (aU u iv)=cN4.enc q) (ky:aj y) (kyy:aj yy) (ku:aj u) (kdv:aj dv) (kv:aj v) (kiv:aj iv) (kq:aj q) (h2:gP (bX (rt1 q)) (rtOk q)=gP r true) (h3:eqI r.to bF.to=false) (h5:(IntKind.u8.wrap (r.l0.tmod 2) !=b.b31.fdiv (2^7))=false) (kr:aj r):
  ay Tryz.prog GX 56 [ak.enc b] (ji ⟨r,y,d9,aU r y⟩ true):=
 ay.aD (Γ:=[jX,nZ,jf,kF,lD,uH,mQ,kP,qg,iL]) ah mixed Tryz.func56 (n:=100) (orc:=[(17,[true]),(21,[.s (cN4.enc y)]),(24,[.s (cN4.enc yy)]),(28,[.s (cN4.enc u)]),(31,[.s (cN4.enc dv)]),(33,[.s (cN4.enc v)]),(34,[.s (cN4.enc iv)]),(35,[.s (cN4.enc q)]),(36,[.s (gP r true)]),(44,[false]),(55,[false])])
  (cs:=[bV (dM (bH b)) p4=true,cN4.enc (dM (bH b))=cN4.enc y,aj y,aj y,cN4.enc (aU y y)=cN4.enc yy,aj yy,aj d9,cN4.enc (bT yy d9)=cN4.enc u,aj d4,aj yy,cN4.enc (aU d4 yy)=cN4.enc dv,aj dv,aj d9,cN4.enc (fH dv d9)=cN4.enc v,aj v,cN4.enc (jc v)=cN4.enc iv,aj u,aj iv,cN4.enc (aU u iv)=cN4.enc q,aj q,gP (bX (rt1 q)) (rtOk q)=gP r true,eqI r.to bF.to=false,(IntKind.u8.wrap (r.l0.tmod 2) !=b.b31.fdiv (2^7))=false,aj r,aj y]) (by kernel_rfl)
  ⟨h1,ey,ky,ky,eyy,kyy,iI,eu,pV,kyy,edv,kdv,iI,ev,kv,eiv,ku,kiv,eq,kq,h2,h3,h5,kr,ky,trivial⟩ rfl rfl
theorem qdec_par_b (b:B32) (y yy u dv v iv q r m x:N4) (h1:bV (dM (bH b)) p4=true) (ey:cN4.enc (dM (bH b))=cN4.enc y) (eyy:cN4.enc (aU y y)=cN4.enc yy) (eu:cN4.enc (bT yy d9)=cN4.enc u) (edv:cN4.enc (aU d4 yy)=cN4.enc dv) (ev:cN4.enc (fH dv d9)=cN4.enc v) (eiv:cN4.enc (jc v)=cN4.enc iv) (eq:cN4.enc (aU u iv)=cN4.enc q) (ky:aj y) (kyy:aj yy) (ku:aj u) (kdv:aj dv) (kv:aj v) (kiv:aj iv) (kq:aj q) (h2:gP (bX (rt1 q)) (rtOk q)=gP r true) (h3:eqI r.to bF.to=true) (h4:(b.b31.fdiv (2^7)==1)=false) (h5:(IntKind.u8.wrap (r.l0.tmod 2) !=b.b31.fdiv (2^7))=true) (kr:aj r) (em:cN4.enc (bT bF r)=cN4.enc m) (km:aj m) (ex:cN4.enc (bX m)=cN4.enc x) (kx:aj x):
  ay Tryz.prog GX 56 [ak.enc b] (ji ⟨x,y,d9,aU x y⟩ true):=
 ay.aD (Γ:=[jX,nZ,jf,kF,lD,uH,mQ,kP,qg,iL]) ah mixed Tryz.func56 (n:=100) (orc:=[(17,[true]),(21,[.s (cN4.enc y)]),(24,[.s (cN4.enc yy)]),(28,[.s (cN4.enc u)]),(31,[.s (cN4.enc dv)]),(33,[.s (cN4.enc v)]),(34,[.s (cN4.enc iv)]),(35,[.s (cN4.enc q)]),(36,[.s (gP r true)]),(44,[true]),(47,[false]),(55,[true]),(58,[.s (cN4.enc m)]),(59,[.s (cN4.enc x)])])
  (cs:=[bV (dM (bH b)) p4=true,cN4.enc (dM (bH b))=cN4.enc y,aj y,aj y,cN4.enc (aU y y)=cN4.enc yy,aj yy,aj d9,cN4.enc (bT yy d9)=cN4.enc u,aj d4,aj yy,cN4.enc (aU d4 yy)=cN4.enc dv,aj dv,aj d9,cN4.enc (fH dv d9)=cN4.enc v,aj v,cN4.enc (jc v)=cN4.enc iv,aj u,aj iv,cN4.enc (aU u iv)=cN4.enc q,aj q,gP (bX (rt1 q)) (rtOk q)=gP r true,eqI r.to bF.to=true,(b.b31.fdiv (2^7)==1)=false,(IntKind.u8.wrap (r.l0.tmod 2) !=b.b31.fdiv (2^7))=true,aj bF,aj r,cN4.enc (bT bF r)=cN4.enc m,aj m,cN4.enc (bX m)=cN4.enc x,aj x,aj y]) (by kernel_rfl)
  ⟨h1,ey,ky,ky,eyy,kyy,iI,eu,pV,kyy,edv,kdv,iI,ev,kv,eiv,ku,kiv,eq,kq,h2,h3,h4,h5,gy,kr,em,km,ex,kx,ky,trivial⟩ rfl rfl
theorem qdec_nopar_b (b:B32) (y yy u dv v iv q r m x:N4) (h1:bV (dM (bH b)) p4=true) (ey:cN4.enc (dM (bH b))=cN4.enc y) (eyy:cN4.enc (aU y y)=cN4.enc yy) (eu:cN4.enc (bT yy d9)=cN4.enc u) (edv:cN4.enc (aU d4 yy)=cN4.enc dv) (ev:cN4.enc (fH dv d9)=cN4.enc v) (eiv:cN4.enc (jc v)=cN4.enc iv) (eq:cN4.enc (aU u iv)=cN4.enc q) (ky:aj y) (kyy:aj yy) (ku:aj u) (kdv:aj dv) (kv:aj v) (kiv:aj iv) (kq:aj q) (h2:gP (bX (rt1 q)) (rtOk q)=gP r true) (h3:eqI r.to bF.to=true) (h4:(b.b31.fdiv (2^7)==1)=false) (h5:(IntKind.u8.wrap (r.l0.tmod 2) !=b.b31.fdiv (2^7))=false) (kr:aj r):
  ay Tryz.prog GX 56 [ak.enc b] (ji ⟨r,y,d9,aU r y⟩ true):=
 ay.aD (Γ:=[jX,nZ,jf,kF,lD,uH,mQ,kP,qg,iL]) ah mixed Tryz.func56 (n:=100) (orc:=[(17,[true]),(21,[.s (cN4.enc y)]),(24,[.s (cN4.enc yy)]),(28,[.s (cN4.enc u)]),(31,[.s (cN4.enc dv)]),(33,[.s (cN4.enc v)]),(34,[.s (cN4.enc iv)]),(35,[.s (cN4.enc q)]),(36,[.s (gP r true)]),(44,[true]),(47,[false]),(55,[false])])
  (cs:=[bV (dM (bH b)) p4=true,cN4.enc (dM (bH b))=cN4.enc y,aj y,aj y,cN4.enc (aU y y)=cN4.enc yy,aj yy,aj d9,cN4.enc (bT yy d9)=cN4.enc u,aj d4,aj yy,cN4.enc (aU d4 yy)=cN4.enc dv,aj dv,aj d9,cN4.enc (fH dv d9)=cN4.enc v,aj v,cN4.enc (jc v)=cN4.enc iv,aj u,aj iv,cN4.enc (aU u iv)=cN4.enc q,aj q,gP (bX (rt1 q)) (rtOk q)=gP r true,eqI r.to bF.to=true,(b.b31.fdiv (2^7)==1)=false,(IntKind.u8.wrap (r.l0.tmod 2) !=b.b31.fdiv (2^7))=false,aj r,aj y]) (by kernel_rfl)
  ⟨h1,ey,ky,ky,eyy,kyy,iI,eu,pV,kyy,edv,kdv,iI,ev,kv,eiv,ku,kiv,eq,kq,h2,h3,h4,h5,kr,ky,trivial⟩ rfl rfl
theorem qdec_fn (b:B32) (hp:Holds [BOk b]):ay Tryz.prog GX 56 [ak.enc b] (ji (qP b) (qOk b)):=by
 obtain⟨hy,hyy,hu,hdv,hv,hi,hq,hr⟩:=qdec_ok hp.1
 have hm:=kE gy hr
 unfold qP
 unfold qOk
 cases h1:bV (dM (bH b)) p4 with
 | false=>exact ay.aD (Γ:=[jX,nZ,jf,kF,lD,uH,mQ,kP,qg,iL]) ah mixed Tryz.func56 (n:=100) (orc:=[(17,[false])]) (cs:=[bV (dM (bH b)) p4=false]) (by kernel_rfl) ⟨h1,trivial⟩ rfl rfl
 | true=>
  simp only
  cases h2:rtOk (qq b) with
  | false=>exact qdec_noroot b (qy b) (qyy b) (qu b) (aU d4 (qyy b)) (qv b) (jc (qv b)) (qq b) (qr b) (bT bF (qr b)) (bX (bT bF (qr b))) h1 rfl rfl rfl rfl rfl rfl rfl hy hyy hu hdv hv hi hq (by rw[h2];rfl)
  | true=>
   simp only
   cases h3:eqI (qr b).to bF.to with
   | false=>
    simp only
    unfold qx
    cases h5:qpar b with
    | true=>exact qdec_par_a b (qy b) (qyy b) (qu b) (aU d4 (qyy b)) (qv b) (jc (qv b)) (qq b) (qr b) (bT bF (qr b)) (bX (bT bF (qr b))) h1 rfl rfl rfl rfl rfl rfl rfl hy hyy hu hdv hv hi hq (by rw[h2];rfl) h3 h5 hr rfl hm rfl (yS hm)
    | false=>exact qdec_nopar_a b (qy b) (qyy b) (qu b) (aU d4 (qyy b)) (qv b) (jc (qv b)) (qq b) (qr b) (bT bF (qr b)) (bX (bT bF (qr b))) h1 rfl rfl rfl rfl rfl rfl rfl hy hyy hu hdv hv hi hq (by rw[h2];rfl) h3 h5 hr
   | true=>
    simp only
    cases h4:(b.b31.fdiv (2^7)==1) with
    | true=>exact qdec_odd0 b (qy b) (qyy b) (qu b) (aU d4 (qyy b)) (qv b) (jc (qv b)) (qq b) (qr b) (bT bF (qr b)) (bX (bT bF (qr b))) h1 rfl rfl rfl rfl rfl rfl rfl hy hyy hu hdv hv hi hq (by rw[h2];rfl) h3 h4
    | false=>
     simp only[Bool.not_false]
     unfold qx
     cases h5:qpar b with
     | true=>exact qdec_par_b b (qy b) (qyy b) (qu b) (aU d4 (qyy b)) (qv b) (jc (qv b)) (qq b) (qr b) (bT bF (qr b)) (bX (bT bF (qr b))) h1 rfl rfl rfl rfl rfl rfl rfl hy hyy hu hdv hv hi hq (by rw[h2];rfl) h3 h4 h5 hr rfl hm rfl (yS hm)
     | false=>exact qdec_nopar_b b (qy b) (qyy b) (qu b) (aU d4 (qyy b)) (qv b) (jc (qv b)) (qq b) (qr b) (bT bF (qr b)) (bX (bT bF (qr b))) h1 rfl rfl rfl rfl rfl rfl rfl hy hyy hu hdv hv hi hq (by rw[h2];rfl) h3 h4 h5 hr
noncomputable def yJ:Con Tryz.prog GX:=fQ 56 Tryz.f56 Tryz.func56 (by kernel_rfl) (by kernel_rfl) (ak) (fun b=>ji (qP b) (qOk b)) (fun b=>[BOk b]) (fun _=>rfl) (fun b h=>qdec_fn b h)
def iC:B32:=⟨88,102,102,102,102,102,102,102,102,102,102,102,102,102,102,102,102,102,102,102,102,102,102,102,102,102,102,102,102,102,102,102⟩
theorem qzero_fn:ay Tryz.prog GX 95 [] (ak.enc jQ):=
 ay.aD (Γ:=([]:Cons Tryz.prog GX)) ah mixed Tryz.func95 (n:=100) (orc:=[]) (cs:=[]) (by kernel_rfl) trivial rfl rfl
noncomputable def qzero_con:Con Tryz.prog GX:=con0 95 Tryz.f95 Tryz.func95 (by kernel_rfl) (by kernel_rfl) (ak.enc jQ) [] rfl (fun _=>qzero_fn)
theorem qgen_fn:ay Tryz.prog GX 57 [] (ak.enc iC):=
 ay.aD (Γ:=([]:Cons Tryz.prog GX)) ah mixed Tryz.func57 (n:=100) (orc:=[]) (cs:=[]) (by kernel_rfl) trivial rfl rfl
noncomputable def qgen_con:Con Tryz.prog GX:=con0 57 Tryz.f57 Tryz.func57 (by kernel_rfl) (by kernel_rfl) (ak.enc iC) [] rfl (fun _=>qgen_fn)
noncomputable def oftQ (n:B32) (p:P16):Nat→P16→P16
 | 0,o=>o
 | k+1,o=>oftQ n p k (match lI n k with
  | true=>jV (jV o o) p
  | false=>jV o o)
noncomputable def fK (n:B32) (p:P16):P16:=oftQ n p 256 nI
theorem AQ:QOk nI:=⟨gy,iI,iI,gy⟩
theorem oftQ_ok {n:B32} {p:P16} (hp:QOk p):∀(k:Nat) (o:P16),QOk o→QOk (oftQ n p k o)
 | 0,o,ho=>ho
 | k+1,o,ho=>by
  unfold oftQ
  have hoo:=sumQ_ok ho ho
  cases lI n k with
  | true=>exact oftQ_ok hp k _ (sumQ_ok hoo hp)
  | false=>exact oftQ_ok hp k _ hoo
theorem oftenQ_ok {n:B32} {p:P16} (hp:QOk p):QOk (fK n p):=oftQ_ok hp 256 _ AQ
namespace qoft
noncomputable abbrev fn:=Tryz.f60
noncomputable def body:Code:=bZ fn
noncomputable def A:Code:=cs1 body
noncomputable def B:Code:=cs1 (cs2 body)
noncomputable def C:Code:=cs1 (cs1 (cs2 (cs2 body)))
noncomputable def L:Code:=cL (cB (cs2 (cs1 (cs2 (cs2 body)))))
noncomputable def D:Code:=cs2 (cs2 (cs2 body))
theorem dX:body= .seq A (.seq B (.seq (.seq C (.block 0 (.loop L))) D)):=by kernel_rfl
noncomputable def Γ:Cons Tryz.prog GX:=[qneutral_con,qsum_con]
section
variable (n:B32) (p:P16)
noncomputable def S (k:Nat) (o:P16) (g:Nat→SV):List SV × List Blk:=([ak.enc n,cQ.enc p,.o (.a (.ptr 0 0)),.o (.a (.ptr 1 0)),.o (.a (.ptr 2 0)),.o (.a (.ptr 3 0)),(av .i64).enc ((k:Int)-1),g 7,g 8,g 9,g 10,g 11,g 12,g 13,g 14,g 15,g 16,g 17,g 18,g 19,g 20,g 21,g 22,g 23,g 24,g 25,g 26,g 27,g 28],[⟨true,26,ak.row n⟩,⟨true,84,cQ.row p⟩,⟨true,84,cQ.row noneQ⟩,⟨true,84,cQ.row o⟩])
noncomputable def st (k:Nat) (o:P16) (g:Nat→SV) (r:Orc):St:=⟨(S n p k o g).1,(S n p k o g).2,r⟩
noncomputable def s0:St:=⟨aH fn [ak.enc n,cQ.enc p],[],[]⟩
noncomputable def s1:St:=dz Γ tys 100 A (s0 n p)
theorem preA:exec Γ tys 100 A (s0 n p)=some (.normal,⟨(s1 n p).tm,(s1 n p).mem,[]⟩,[]):=by kernel_rfl
noncomputable def s2:St:=dz Γ tys 100 B (s1 n p)
theorem preB:exec Γ tys 100 B ⟨(s1 n p).tm,(s1 n p).mem,[]⟩=some (.normal,⟨(s2 n p).tm,(s2 n p).mem,[]⟩,[]):=by kernel_rfl
theorem preC:exec Γ tys 100 C ⟨(s2 n p).tm,(s2 n p).mem,[]⟩=some (.normal,st n p 256 nI (outT Γ tys 100 C (s2 n p)) [],[]):=by kernel_rfl
theorem tab1 (o o2 o3:P16) (g:Nat→SV):tabL (fun j=>exec Γ tys 100 L (st n p (j+1) o g [(14,[.s (cQ.enc o2)]),(24,[true]),(27,[.s (cQ.enc o3)])])) 256=tabR (fun j=>some (.normal,st n p j o3 (outT Γ tys 100 L (st n p (j+1) o g [(14,[.s (cQ.enc o2)]),(24,[true]),(27,[.s (cQ.enc o3)])])) [(14,[]),(24,[]),(27,[])],[QOk o,QOk o,cQ.enc (jV o o)=cQ.enc o2,lI n j=true,QOk o2,QOk p,cQ.enc (jV o2 p)=cQ.enc o3])) 256:=by kernel_rfl
theorem tab0 (o o2:P16) (g:Nat→SV):tabL (fun j=>exec Γ tys 100 L (st n p (j+1) o g [(14,[.s (cQ.enc o2)]),(24,[false])])) 256=tabR (fun j=>some (.normal,st n p j o2 (outT Γ tys 100 L (st n p (j+1) o g [(14,[.s (cQ.enc o2)]),(24,[false])])) [(14,[]),(24,[])],[QOk o,QOk o,cQ.enc (jV o o)=cQ.enc o2,lI n j=false])) 256:=by kernel_rfl
theorem last (o:P16) (g:Nat→SV):exec Γ tys 100 L (st n p 0 o g [])=some (.exit 0,st n p 0 o (outT Γ tys 100 L (st n p 0 o g [])) [],[]):=by kernel_rfl
noncomputable def fin (o:P16) (g:Nat→SV):St:=dz Γ tys 100 D (st n p 0 o g [])
theorem post (o:P16) (g:Nat→SV):exec Γ tys 100 D (st n p 0 o g [])=some (.ret,⟨(fin n p o g).tm,(fin n p o g).mem,[]⟩,[]):=by kernel_rfl
theorem result (o:P16) (g:Nat→SV):eRes tys (fin n p o g).tm (fun k=>(fin n p o g).mem[k]?) fn.results.toList=some [.g (cQ.row o)]:=by kernel_rfl
end
end qoft
theorem qoft_loop (n:B32) (p:P16) (hp:QOk p) (g:Nat→SV) {Post:Ex→List SV→List Blk→Prop} (hP:∀o g',o=fK n p→Post .normal (qoft.S n p 0 o g').1 (qoft.S n p 0 o g').2):
  Runs Tryz.prog GX (.block 0 (.loop qoft.L)) (qoft.S n p 256 nI g).1 (qoft.S n p 256 nI g).2 Post:=by
 refine Runs.block ?_
 refine Runs.loop (fun(t:Nat × P16 × (Nat→SV))=>qoft.S n p t.1 t.2.1 t.2.2) (fun t=>t.1≤256∧QOk t.2.1∧oftQ n p t.1 t.2.1=fK n p) (fun t=>t.1) ?_ (256,nI,g) ⟨Nat.le_refl _,AQ,by rw[fK]⟩
 rintro⟨k,o,g⟩ ⟨hk,ho,hr⟩
 simp only at hk ho hr
 cases k with
 | zero=>
  rw[oftQ] at hr
  exact Runs.aQ ah mixed (qoft.last n p o g) trivial (hP _ _ hr)
 | succ k=>
  have hoo:=sumQ_ok ho ho
  rw[oftQ] at hr
  cases hb:lI n k with
  | true=>
   rw[hb] at hr
   exact Runs.aQ ah mixed (jU (qoft.tab1 n p o (jV o o) (jV (jV o o) p) g) k (by omega)) ⟨ho,ho,rfl,hb,hoo,hp,rfl,trivial⟩
    ⟨(k,jV (jV o o) p,outT qoft.Γ tys 100 qoft.L (qoft.st n p (k+1) o g [(14,[.s (cQ.enc (jV o o))]),(24,[true]),(27,[.s (cQ.enc (jV (jV o o) p))])])),rW _,⟨by simp only;omega,sumQ_ok hoo hp,hr⟩,Nat.lt_succ_self _⟩
  | false=>
   rw[hb] at hr
   exact Runs.aQ ah mixed (jU (qoft.tab0 n p o (jV o o) g) k (by omega)) ⟨ho,ho,rfl,hb,trivial⟩
    ⟨(k,jV o o,outT qoft.Γ tys 100 qoft.L (qoft.st n p (k+1) o g [(14,[.s (cQ.enc (jV o o))]),(24,[false])])),rW _,⟨by simp only;omega,hoo,hr⟩,Nat.lt_succ_self _⟩
theorem qoft_last (n:B32) (p o:P16) (g:Nat→SV):Runs Tryz.prog GX qoft.D (qoft.S n p 0 o g).1 (qoft.S n p 0 o g).2 (Go.Eng.Ends tys qoft.fn (cQ.enc o)):=
 Runs.aQ ah mixed (qoft.post n p o g) trivial (Ends.ret (qoft.result n p o g) rfl)
theorem qoft_fn (n:B32) (p:P16) (hh:Holds [QOk p]):ay Tryz.prog GX 60 [ak.enc n,cQ.enc p] (cQ.enc (fK n p)):=by
 refine ay.u7 ah Tryz.func60 (c:=qoft.body) (by kernel_rfl) ?_ rfl rfl
 rw[qoft.dX]
 refine Runs.seq (Runs.aQ ah mixed (qoft.preA n p) trivial ?_)
 refine Runs.seq (Runs.aQ ah mixed (qoft.preB n p) trivial ?_)
 refine Runs.seq (Runs.seq (Runs.aQ ah mixed (qoft.preC n p) trivial ?_))
 refine qoft_loop n p hh.1 _ fun o g' hr=> ?_
 have he:=qoft_last n p o g'
 rw[hr] at he ⊢
 exact he
noncomputable def yH:Con Tryz.prog GX:=jA 60 Tryz.f60 Tryz.func60 (by kernel_rfl) (by kernel_rfl) (ak) (cQ) (fun n p=>cQ.enc (fK n p)) (fun n p=>[QOk p]) (fun _ _=>rfl) (fun n p h=>qoft_fn n p h)
noncomputable def qmulB (n a:B32):B32:=match qOk a with
 | true=>encQ (fK n (qP a))
 | false=>aM
theorem qmul_fn (n a:B32) (hp:Holds [BOk a]):ay Tryz.prog GX 129 [ak.enc n,ak.enc a] (pU (qmulB n a) (gZ (qOk a))):=by
 have ha:=qP_ok hp.1
 unfold qmulB
 cases h:qOk a with
 | true=>exact ay.aD (Γ:=[yJ,yH,yI]) ah mixed Tryz.func129 (n:=100) (orc:=[(12,[true])]) (cs:=[BOk a,qOk a=true,QOk (qP a),QOk (fK n (qP a))]) (by kernel_rfl) ⟨hp.1,h,ha,oftenQ_ok ha,trivial⟩ rfl rfl
 | false=>exact ay.aD (Γ:=[yJ,yH,yI]) ah mixed Tryz.func129 (n:=100) (orc:=[(12,[false])]) (cs:=[BOk a,qOk a=false]) (by kernel_rfl) ⟨hp.1,h,trivial⟩ rfl rfl
noncomputable def qmul_con:Con Tryz.prog GX:=jA 129 Tryz.f129 Tryz.func129 (by kernel_rfl) (by kernel_rfl) (ak) (ak) (fun n a=>pU (qmulB n a) (gZ (qOk a))) (fun n a=>[BOk a]) (fun _ _=>rfl) (fun n a h=>qmul_fn n a h)
theorem wE:BOk iC:=by
 intro i
 unfold B32.at iC
 split<;>exact⟨by decide,by decide⟩
noncomputable def qU (n:B32):B32:=encQ (fK n (qP iC))
theorem qbase_walk (n:B32) (q o:P16) (f:Bool) (h0:BOk iC) (h1:ji (qP iC) (qOk iC)=ji q f) (h2:QOk q) (h3:cQ.enc (fK n q)=cQ.enc o) (h4:QOk o):ay Tryz.prog GX 35 [ak.enc n] (ak.enc (encQ o)):=
 ay.aD (Γ:=[qgen_con,yJ,yH,yI]) ah mixed Tryz.func35 (n:=100) (orc:=[(7,[.s (ji q f)]),(12,[.s (cQ.enc o)])]) (cs:=[BOk iC,ji (qP iC) (qOk iC)=ji q f,QOk q,cQ.enc (fK n q)=cQ.enc o,QOk o]) (by kernel_rfl) ⟨h0,h1,h2,h3,h4,trivial⟩ rfl rfl
theorem qbase_fn (n:B32):ay Tryz.prog GX 35 [ak.enc n] (ak.enc (qU n)):=
 qbase_walk n _ _ _ wE rfl (qP_ok wE) rfl (oftenQ_ok (qP_ok wE))
noncomputable def qbase_con:Con Tryz.prog GX:=fQ 35 Tryz.f35 Tryz.func35 (by kernel_rfl) (by kernel_rfl) (ak) (fun n=>ak.enc (qU n)) (fun _=>[]) (fun _=>rfl) (fun n _=>qbase_fn n)
noncomputable def nP (a:B32):B32:=qmulB (numB 8) a
theorem qclear_fn (a:B32) (hp:Holds [BOk a]):ay Tryz.prog GX 94 [ak.enc a] (pU (nP a) (gZ (qOk a))):=
 ay.aD (Γ:=[qmul_con]) ah mixed Tryz.func94 (n:=100) (orc:=[]) (cs:=[BOk a]) (by kernel_rfl) hp rfl rfl
noncomputable def qclear_con:Con Tryz.prog GX:=fQ 94 Tryz.f94 Tryz.func94 (by kernel_rfl) (by kernel_rfl) (ak) (fun a=>pU (nP a) (gZ (qOk a))) (fun a=>[BOk a]) (fun _=>rfl) (fun a h=>qclear_fn a h)
noncomputable def jq (a:B32):Bool:=match qOk a with
 | true=>eqB (nP a) jQ
 | false=>false
theorem qsmall_walk1 (a c:B32) (h0:BOk a) (h1:pU (nP a) (gZ (qOk a))=pU c 0):ay Tryz.prog GX 54 [ak.enc a] (dw (eqB c jQ) 0):=
 ay.aD (Γ:=[qclear_con,qzero_con]) ah mixed Tryz.func54 (n:=100) (orc:=[(8,[.s (pU c 0)])]) (cs:=[BOk a,pU (nP a) (gZ (qOk a))=pU c 0]) (by kernel_rfl) ⟨h0,h1,trivial⟩ rfl rfl
theorem qsmall_walk2 (a c:B32) (h0:BOk a) (h1:pU (nP a) (gZ (qOk a))=pU c 2):ay Tryz.prog GX 54 [ak.enc a] (dw false 2):=
 ay.aD (Γ:=[qclear_con,qzero_con]) ah mixed Tryz.func54 (n:=100) (orc:=[(8,[.s (pU c 2)])]) (cs:=[BOk a,pU (nP a) (gZ (qOk a))=pU c 2]) (by kernel_rfl) ⟨h0,h1,trivial⟩ rfl rfl
theorem qsmall_fn (a:B32) (hp:Holds [BOk a]):ay Tryz.prog GX 54 [ak.enc a] (dw (jq a) (gZ (qOk a))):=by
 unfold jq
 cases h:qOk a with
 | true=>exact qsmall_walk1 a (nP a) hp.1 (by rw[h];rfl)
 | false=>exact qsmall_walk2 a (nP a) hp.1 (by rw[h];rfl)
noncomputable def yG:Con Tryz.prog GX:=fQ 54 Tryz.f54 Tryz.func54 (by kernel_rfl) (by kernel_rfl) (ak) (fun a=>dw (jq a) (gZ (qOk a))) (fun a=>[BOk a]) (fun _=>rfl) (fun a h=>qsmall_fn a h)
end Go.Proofs.YthlmepolmemejaaGreatDoor

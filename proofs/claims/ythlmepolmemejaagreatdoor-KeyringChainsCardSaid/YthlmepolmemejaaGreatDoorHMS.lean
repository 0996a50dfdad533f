/- Contracts of callees that are handed a slice over a row that they only read. -/
import Derived.Test.YthlmepolmemejaaGreatDoorHMA
import Derived.Test.YthlmepolmemejaaGreatDoorHMF
import Derived.Test.YthlmepolmemejaaGreatDoorHMR
import Derived.Test.YthlmepolmemejaaGreatDoorHMP
namespace Go.Proofs.YthlmepolmemejaaGreatDoor
open Go Go.Eng Go.RowKit
set_option linter.unusedVariables false
def FnMem (P:Program) (G:Glob) (f:FuncId) (args:List SV) (blks:List Blk) (r:SV):Prop:=
 ∀fn c,P.funcs[f]? =some fn→fn.body=some c→aD P G blks.length c (aB fn args) blks (aF tys fn (aX r .none))
theorem FnMem.of_runs {P:Program} {G:Glob} (hT:Ty.ok P tys) {f:FuncId} {fn:Func} (hf:P.funcs[f]? =some fn) {c:Code} (hb:fn.body=some c) {args:List SV} {blks:List Blk} {r:SV}
  (hrun:aD P G blks.length c (aB fn args) blks (Go.Eng.Ends tys fn r)) (hr:r.ids=[]) (hargs:((args.all fun x=>x.ids.all fun k=>Nat.blt k blks.length)&&(blks.all fun b=> !b.own))=true):FnMem P G f args blks r:=by
 intro fn' c' hf' hb'
 rw[hf] at hf'
 cases hf'
 rw[hb] at hb'
 cases hb'
 exact hrun
theorem enc_row {δ:Type} {c:Cod δ} {b:δ} {cs:List Atom} (h:c.enc b= .o (.g cs)):c.row b=cs:=by
 unfold Cod.row
 rw[h]
def Dec.slc (P:Program) {β:Type} (n:Nat) (cb:Cod β) (F:β→SV) (pre:β→Cst) (ids:∀b,(F b).ids=[]):Dec P (β × TypeId) where
 largs x:=[.o (.a (.slc 0 0 n n))]
 lblks x:=[⟨false,x.2,.lit (cb.row x.1)⟩]
 res x:=F x.1
 eff _:= .none
 pre x:=pre x.1
 inv _:=True
 dec m args:=match args with
  | [.o (.a (.slc k 0 l c))]=>match Nat.beq l n&&Nat.beq c n,m k with
   | true,some ⟨_,ty,.lit cs⟩=>match cb.dec (.o (.g cs)) with
    | some b=>some ((b,ty),[(k,0,none)])
    | none=>none
   | _,_=>none
  | _=>none
 ok m args x κ h hc:=by
  split at h<;>try cases h
  rename_i k l c
  split at h<;>try cases h
  rename_i own ty cs hlc hm
  split at h<;>cases h
  rename_i b hb
  rw[Bool.and_eq_true] at hlc
  have h1:=Nat.eq_of_beq_eq_true hlc.1
  have h2:=Nat.eq_of_beq_eq_true hlc.2
  subst h1 h2
  have hrow:=enc_row (cb.ok _ _ hb)
  have hids:aR (cb.row b)=[]:=by
   have:=cb.ids b
   rw[cb.ok _ _ hb] at this
   rw[hrow]
   exact this
  refine⟨trivial,⟨?_,?_⟩,fun β=> ?_⟩
  ·intro i bl hbl
   cases i with
   | zero=>
    simp only[List.getElem?_cons_zero,Option.some.injEq] at hbl
    subst hbl
    exact⟨_,hm,rfl,.inl ⟨hids,.inl ⟨rfl,rfl,fun β n C hC=>by rw[hrow];exact hC,fun h=>by cases h⟩⟩⟩
   | succ i=>simp at hbl
  ·intro i j bl cl hb hcl ho
   cases i with
   | zero=>simp at hb;rw[←hb] at ho;cases ho
   | succ i=>simp at hb
  ·simp[SV.den,SV1.den,Atom.den,handB,Loc.at]
 sm m args x κ h i hi:=by
  split at h<;>try cases h
  split at h<;>try cases h
  rename_i hm
  split at h<;>cases h
  have hi0:i=0:=by simp at hi;exact hi
  subst hi0
  simp[hm]
 loc m m' args h hd:=by
  clear hd
  split
  ·rename_i k l c
   rw[h (.o (.a (.slc k 0 l c))) (by simp) k (by simp[SV.ids,SV1.ids,Atom.ids])]
  ·rfl
 ids x y hy k hk:=by
  simp only[List.mem_singleton] at hy
  subst hy
  simp only[SV.ids,SV1.ids,Atom.ids,List.mem_singleton] at hk
  subst hk
  simp
 good x:=⟨ids _,fun b hb=>by simp at hb;rw[hb]⟩
noncomputable def conSlc {P:Program} {G:Glob} {β:Type} (hT:Ty.ok P tys) (f:FuncId) (fn:Func) (hf:P.funcs[f]? =some fn) (h1:(fn.name== "runtime.NumGoroutine")=false) {c:Code} (hb:fn.body=some c) (n:Nat) (cb:Cod β) (F:β→SV) (pre:β→Cst)
  (ids:∀b,(F b).ids=[]) (run:∀b ty,Holds (pre b)→FnMem P G f [.o (.a (.slc 0 0 n n))] [⟨false,ty,.lit (cb.row b)⟩] (F b)):Con P G:=
 Con.hand hT f fn hf h1 hb (Dec.slc P n cb F pre ids) (fun x hc _=>run x.1 x.2 hc fn c hf hb)
end Go.Proofs.YthlmepolmemejaaGreatDoor
namespace Go.Proofs.YthlmepolmemejaaGreatDoor
open Go Go.Eng
set_option linter.unusedVariables false
set_option maxRecDepth 100000
def o4:N4:=⟨6346243789798364141,1503914060200516822,0,1152921504606846976⟩
def aT:N4:=⟨0,0,0,0⟩
theorem sorder_fn:FnOk Tryz.prog GX 98 [] (cN4.enc o4):=
 FnOk.av (Γ:=([]:Cons Tryz.prog GX)) ah mixed Tryz.func98 (n:=100) (orc:=[]) (cs:=[]) (by kernel_rfl) trivial rfl rfl
def sorder_con:Con Tryz.prog GX:=con0 98 Tryz.f98 Tryz.func98 (by kernel_rfl) (by kernel_rfl) (cN4.enc o4) [] rfl (fun _=>sorder_fn)
theorem sbelow_fn (a b:N4):FnOk Tryz.prog GX 96 [cN4.enc a,cN4.enc b] (bE.enc (bJ a b)):=by
 unfold bJ
 cases h3:(a.l3 !=b.l3) with
 | true=>exact FnOk.av (Γ:=([]:Cons Tryz.prog GX)) ah mixed Tryz.func96 (n:=100) (orc:=[(16,[true])]) (cs:=[(a.l3 !=b.l3)=true]) (by kernel_rfl) ⟨h3,trivial⟩ rfl rfl
 | false=>
  simp only
  unfold below2
  cases h2:(a.l2 !=b.l2) with
  | true=>exact FnOk.av (Γ:=([]:Cons Tryz.prog GX)) ah mixed Tryz.func96 (n:=100) (orc:=[(16,[false,true])]) (cs:=[(a.l3 !=b.l3)=false,(a.l2 !=b.l2)=true]) (by kernel_rfl) ⟨h3,h2,trivial⟩ rfl rfl
  | false=>
   simp only
   unfold below1
   cases h1:(a.l1 !=b.l1) with
   | true=>exact FnOk.av (Γ:=([]:Cons Tryz.prog GX)) ah mixed Tryz.func96 (n:=100) (orc:=[(16,[false,false,true])]) (cs:=[(a.l3 !=b.l3)=false,(a.l2 !=b.l2)=false,(a.l1 !=b.l1)=true]) (by kernel_rfl) ⟨h3,h2,h1,trivial⟩ rfl rfl
   | false=>
    simp only
    unfold below0
    cases h0:(a.l0 !=b.l0) with
    | true=>exact FnOk.av (Γ:=([]:Cons Tryz.prog GX)) ah mixed Tryz.func96 (n:=100) (orc:=[(16,[false,false,false,true])]) (cs:=[(a.l3 !=b.l3)=false,(a.l2 !=b.l2)=false,(a.l1 !=b.l1)=false,(a.l0 !=b.l0)=true]) (by kernel_rfl) ⟨h3,h2,h1,h0,trivial⟩ rfl rfl
    | false=>exact FnOk.av (Γ:=([]:Cons Tryz.prog GX)) ah mixed Tryz.func96 (n:=100) (orc:=[(16,[false,false,false,false])]) (cs:=[(a.l3 !=b.l3)=false,(a.l2 !=b.l2)=false,(a.l1 !=b.l1)=false,(a.l0 !=b.l0)=false]) (by kernel_rfl) ⟨h3,h2,h1,h0,trivial⟩ rfl rfl
def sbelow_con:Con Tryz.prog GX:=con2 96 Tryz.f96 Tryz.func96 (by kernel_rfl) (by kernel_rfl) (cN4) (cN4) (fun a b=>bE.enc (bJ a b)) (fun _ _=>[]) (fun _ _=>rfl) (fun a b _=>sbelow_fn a b)
theorem sless_fn (a b:N4):FnOk Tryz.prog GX 119 [cN4.enc a,cN4.enc b] (cN4.enc (lessN a b)):=
 FnOk.av (Γ:=[sub64_con]) ah mixed Tryz.func119 (n:=100) (orc:=[]) (cs:=[(0:Int).toNat≤1,(lessB0 a b).toNat≤1,(lessB1 a b).toNat≤1,(lessB2 a b).toNat≤1]) (by kernel_rfl)
  ⟨by decide,sub64B_le _ _ _,sub64B_le _ _ _,sub64B_le _ _ _,trivial⟩ rfl rfl
def sless_con:Con Tryz.prog GX:=con2 119 Tryz.f119 Tryz.func119 (by kernel_rfl) (by kernel_rfl) (cN4) (cN4) (fun a b=>cN4.enc (lessN a b)) (fun _ _=>[]) (fun _ _=>rfl) (fun a b _=>sless_fn a b)
theorem sbytes_fn (a:N4):FnOk Tryz.prog GX 72 [(cN4).enc a] (cB32.enc (bytes4 a)):=
 FnOk.av (Γ:=([]:Cons Tryz.prog GX)) ah mixed Tryz.func72 (n:=100) (orc:=[]) (cs:=[]) (by kernel_rfl) trivial rfl rfl
def sbytes_con:Con Tryz.prog GX:=con1 72 Tryz.f72 Tryz.func72 (by kernel_rfl) (by kernel_rfl) (cN4) (fun a=>cB32.enc (bytes4 a)) (fun _=>[]) (fun _=>rfl) (fun a _=>sbytes_fn a)
def aZ (a b:N4):N4:=match bJ (sumS a b) o4 with
 | true=>sumS a b
 | false=>lessN (sumS a b) o4
theorem splus_fn (a b:N4) (hp:Holds [N4Ok a,N4Ok b]):FnOk Tryz.prog GX 71 [cN4.enc a,cN4.enc b] (cN4.enc (aZ a b)):=by
 obtain⟨b0,b1,b2,b3,ok,e⟩:=sumS_val hp.1 hp.2.1
 unfold aZ
 cases h:bJ (sumS a b) o4 with
 | true=>
  exact FnOk.av (Γ:=[add64_con,sbelow_con,sless_con,sorder_con]) ah mixed Tryz.func71 (n:=100) (orc:=[(27,[true])])
   (cs:=[(0:Int).toNat≤1,(sum0 a b).toNat≤1,(sum1 a b).toNat≤1,(sum2 a b).toNat≤1,bJ (sumS a b) o4=true]) (by kernel_rfl)
   ⟨by decide,(bQ b0).2,(bQ b1).2,(bQ b2).2,h,trivial⟩ rfl rfl
 | false=>
  exact FnOk.av (Γ:=[add64_con,sbelow_con,sless_con,sorder_con]) ah mixed Tryz.func71 (n:=100) (orc:=[(27,[false])])
   (cs:=[(0:Int).toNat≤1,(sum0 a b).toNat≤1,(sum1 a b).toNat≤1,(sum2 a b).toNat≤1,bJ (sumS a b) o4=false]) (by kernel_rfl)
   ⟨by decide,(bQ b0).2,(bQ b1).2,(bQ b2).2,h,trivial⟩ rfl rfl
def splus_con:Con Tryz.prog GX:=con2 71 Tryz.f71 Tryz.func71 (by kernel_rfl) (by kernel_rfl) (cN4) (cN4) (fun a b=>cN4.enc (aZ a b)) (fun a b=>[N4Ok a,N4Ok b]) (fun _ _=>rfl) (fun a b h=>splus_fn a b h)
def ordI:Int:=7237005577332262213973186563042994240857116359379907606001950938285454250989
theorem o4_ok:N4Ok o4:=by unfold N4Ok Word;decide
theorem o4_val:N4V o4=ordI:=by decide
theorem plusL_ok {a b:N4} (ha:N4Ok a) (hb:N4Ok b):N4Ok (aZ a b):=by
 obtain⟨b0,b1,b2,b3,ok,e⟩:=sumS_val ha hb
 have hi:=belowW_iff ok o4_ok
 unfold aZ
 cases h:bJ (sumS a b) o4 with
 | true=>exact ok
 | false=>
  have:¬N4V (sumS a b)<N4V o4:=fun k=>by rw[hi.2 k] at h;cases h
  exact(lessN_val ok o4_ok (by omega)).1
theorem plusL_val {a b:N4} (ha:N4Ok a) (hb:N4Ok b) (la:N4V a<ordI) (lb:N4V b<ordI):N4V (aZ a b)=(N4V a+N4V b)%ordI:=by
 obtain⟨b0,b1,b2,b3,ok,e⟩:=sumS_val ha hb
 have hi:=belowW_iff ok o4_ok
 rw[o4_val] at hi
 have va:=N4V_lt ha
 have vb:=N4V_lt hb
 have vs:=N4V_lt ok
 have hl:ordI=7237005577332262213973186563042994240857116359379907606001950938285454250989:=rfl
 have es:N4V (sumS a b)=N4V a+N4V b:=by omega
 unfold aZ
 cases h:bJ (sumS a b) o4 with
 | true=>
  have:=hi.1 h
  simp only
  rw[es]
  exact(Int.emod_eq_of_lt (by omega) (by omega)).symm
 | false=>
  have hn:¬N4V (sumS a b)<ordI:=fun k=>by rw[hi.2 k] at h;cases h
  simp only
  rw[(lessN_val ok o4_ok (by rw[o4_val];omega)).2,o4_val,es]
  refine(Int.emod_eq_of_lt (a:=N4V a+N4V b-ordI) (b:=ordI) (by omega) (by omega)).symm.trans ?_
  exact Int.sub_emod_right _ _
def bitB (b:B32) (j:Nat):Bool:=(bits .and .u8 (shrU (b.at (j/8)) (j%8)) 1)==1
def bsum (f:Nat→Bool):Nat→Nat
 | 0=>0
 | k+1=>bsum f k+2^k*(f k).toNat
theorem bsum_word (f:Nat→Bool) (s w:Nat):∀n,(∀t,t<n→f (s+t)=decide (w/2^t%2=1))→bsum f (s+n)=bsum f s+2^s*(w%2^n)
 | 0,_=>by simp[Nat.mod_one]
 | n+1,h=>by
  have ih:=bsum_word f s w n fun t ht=>h t (by omega)
  rw[←Nat.add_assoc,bsum,ih,h n (by omega),Nat.mod_pow_succ,Nat.pow_add]
  have hb:(decide (w/2^n%2=1)).toNat=w/2^n%2:=by
   have:=Nat.mod_lt (w/2^n) (by decide:0<2)
   by_cases hc:w/2^n%2=1
   ·rw[decide_eq_true hc,hc];rfl
   ·rw[decide_eq_false hc]
    show 0=_
    omega
  rw[hb]
  grind
theorem and1 (x:Int) (h0:0≤x) (h1:x<256):bits .and .u8 x 1=x%2:=
 bits_mask .u8 8 (by decide) (fun n h₀ h₁=>by rw[IntKind.wrap_u8];omega) 1 (by decide) x h0 h1
theorem bitB_eq {b:B32} (hb:BOk b) (i t:Nat) (ht:t<8):bitB b (8*i+t)=decide ((b.at i).toNat/2^t%2=1):=by
 obtain⟨h0,h1⟩:=hb i
 unfold bitB
 rw[show(8*i+t)/8=i by omega,show(8*i+t)%8=t by omega,shrU_eq]
 generalize b.at i=x at*
 obtain⟨n,rfl⟩:=Int.eq_ofNat_of_zero_le h0
 have e:(n:Int)/2^t=((n/2^t:Nat):Int):=by simp
 have hle:n/2^t≤n:=Nat.div_le_self _ _
 rw[e,Int.toNat_natCast]
 generalize n/2^t=q at*
 rw[and1 _ (by omega) (by omega)]
 have e2:(q:Int)%2=((q%2:Nat):Int):=by simp
 rw[e2]
 by_cases hc:q%2=1
 ·rw[hc];rfl
 ·rw[decide_eq_false hc,beq_eq_false_iff_ne]
  omega
def byteSum (b:B32):Nat→Nat
 | 0=>0
 | k+1=>byteSum b k+256^k*(b.at k).toNat
theorem bsum_bytes {b:B32} (hb:BOk b):∀i,bsum (bitB b) (8*i)=byteSum b i
 | 0=>by rw[Nat.mul_zero,bsum,byteSum]
 | i+1=>by
  rw[Nat.mul_succ,bsum_word (bitB b) (8*i) (b.at i).toNat 8 (fun t ht=>bitB_eq hb i t ht),bsum_bytes hb i,byteSum]
  have h1:=(hb i).2
  have h0:=(hb i).1
  rw[Nat.mod_eq_of_lt (by omega),Nat.pow_mul]
end Go.Proofs.YthlmepolmemejaaGreatDoor
namespace Go.Proofs.YthlmepolmemejaaGreatDoor
open Go Go.Eng
set_option linter.unusedVariables false
set_option maxRecDepth 100000
theorem pair_eta' {α β:Type} (x:α × β):(x.1,x.2)=x:=rfl
noncomputable def modS (b:B32):Nat→N4→N4
 | 0,o=>o
 | k+1,o=>modS b k (match bitB b k with
  | true=>aZ (aZ o o) one4
  | false=>aZ o o)
noncomputable def modN (b:B32):N4:=modS b 256 aT
namespace smod
noncomputable abbrev fn:=Tryz.f70
noncomputable def body:Code:=bL fn
noncomputable def A:Code:=cs1 body
noncomputable def B:Code:=cs1 (cs2 body)
noncomputable def C:Code:=cs1 (cs1 (cs2 (cs2 body)))
noncomputable def L:Code:=cL (cB (cs2 (cs1 (cs2 (cs2 body)))))
noncomputable def D:Code:=cs2 (cs2 (cs2 body))
theorem bU:body= .seq A (.seq B (.seq (.seq C (.block 0 (.loop L))) D)):=by kernel_rfl
noncomputable def Γ:Cons Tryz.prog GX:=[splus_con]
section
variable (b:B32) (ty:TypeId)
noncomputable def S (k:Nat) (o:N4) (g:Nat→SV):List SV × List Blk:=([.o (.a (.slc 0 0 32 32)),g 1,.o (.a (.ptr 1 0)),.o (.a (.ptr 2 0)),(cInt .i64).enc ((k:Int)-1),g 5,g 6,g 7,g 8,g 9,g 10,g 11,g 12,g 13,g 14,g 15,g 16,g 17,g 18,g 19,g 20,g 21,g 22,g 23,g 24,g 25,g 26,g 27,g 28,g 29,g 30],[⟨false,ty,cB32.row b⟩,⟨true,99,cN4.row aT⟩,⟨true,99,cN4.row o⟩])
noncomputable def st (k:Nat) (o:N4) (g:Nat→SV) (r:Orc):St:=⟨(S b ty k o g).1,(S b ty k o g).2,r⟩
noncomputable def s0:St:=⟨aB fn [.o (.a (.slc 0 0 32 32))],[⟨false,ty,cB32.row b⟩],[]⟩
noncomputable def s1:St:=outS Γ tys 100 A (s0 b ty)
theorem preA:exec Γ tys 100 A (s0 b ty)=some (.normal,⟨(s1 b ty).tm,(s1 b ty).mem,[]⟩,[]):=by kernel_rfl
noncomputable def s2:St:=outS Γ tys 100 B (s1 b ty)
theorem preB:exec Γ tys 100 B ⟨(s1 b ty).tm,(s1 b ty).mem,[]⟩=some (.normal,⟨(s2 b ty).tm,(s2 b ty).mem,[]⟩,[]):=by kernel_rfl
theorem preC:exec Γ tys 100 C ⟨(s2 b ty).tm,(s2 b ty).mem,[]⟩=some (.normal,st b ty 256 aT (outT Γ tys 100 C (s2 b ty)) [],[]):=by kernel_rfl
theorem tab1 (o:N4) (g:Nat→SV):tabL (fun j=>exec Γ tys 100 L (st b ty (j+1) o g [(26,[true])])) 256=tabR (fun j=>some (.normal,st b ty j (aZ (aZ o o) one4) (outT Γ tys 100 L (st b ty (j+1) o g [(26,[true])])) [(26,[])],[N4Ok o,N4Ok o,bitB b j=true,N4Ok (aZ o o),N4Ok one4])) 256:=by kernel_rfl
theorem tab0 (o:N4) (g:Nat→SV):tabL (fun j=>exec Γ tys 100 L (st b ty (j+1) o g [(26,[false])])) 256=tabR (fun j=>some (.normal,st b ty j (aZ o o) (outT Γ tys 100 L (st b ty (j+1) o g [(26,[false])])) [(26,[])],[N4Ok o,N4Ok o,bitB b j=false])) 256:=by kernel_rfl
theorem last (o:N4) (g:Nat→SV):exec Γ tys 100 L (st b ty 0 o g [])=some (.exit 0,st b ty 0 o (outT Γ tys 100 L (st b ty 0 o g [])) [],[]):=by kernel_rfl
noncomputable def fin (o:N4) (g:Nat→SV):St:=outS Γ tys 100 D (st b ty 0 o g [])
theorem post (o:N4) (g:Nat→SV):exec Γ tys 100 D (st b ty 0 o g [])=some (.ret,⟨(fin b ty o g).tm,(fin b ty o g).mem,[]⟩,[]):=by kernel_rfl
theorem result (o:N4) (g:Nat→SV):eRes tys (fin b ty o g).tm (fun k=>(fin b ty o g).mem[k]?) fn.results.toList=some [.g (cN4.row o)]:=by kernel_rfl
end
end smod
theorem one4_ok:N4Ok one4:=by unfold N4Ok Word;decide
theorem smod_mem (b:B32) (ty:TypeId):FnMem Tryz.prog GX 70 [.o (.a (.slc 0 0 32 32))] [⟨false,ty,cB32.row b⟩] (cN4.enc (modN b)):=by
 refine FnMem.of_runs ah Tryz.func70 (c:=smod.body) (by kernel_rfl) ?_ rfl rfl
 rw[smod.bU]
 refine Runs.seq (Runs.aG ah mixed (smod.preA b ty) trivial ?_)
 refine Runs.seq (Runs.aG ah mixed (smod.preB b ty) trivial ?_)
 refine Runs.seq (Runs.seq (Runs.aG ah mixed (smod.preC b ty) trivial ?_))
 refine Runs.block ?_
 refine Runs.loop (fun(x:Nat × N4 × (Nat→SV))=>smod.S b ty x.1 x.2.1 x.2.2) (fun x=>x.1≤256∧N4Ok x.2.1∧modS b x.1 x.2.1=modN b) (fun x=>x.1) ?_ (256,aT,_) ⟨Nat.le_refl _,dw,rfl⟩
 rintro⟨k,o,g⟩ ⟨hk,ho,hr⟩
 simp only at hk ho hr
 cases k with
 | zero=>
  refine Runs.aG ah mixed (smod.last b ty o g) trivial ?_
  show aD Tryz.prog GX _ smod.D _ _ _
  refine Runs.aG ah mixed (smod.post b ty o _) trivial (Ends.ret (smod.result b ty o _) ?_)
  rw[←hr]
  rfl
 | succ k=>
  have hoo:=plusL_ok ho ho
  cases hb:bitB b k with
  | true=>
   refine Runs.aG ah mixed (tab_get (smod.tab1 b ty o g) k (by omega)) ⟨ho,ho,hb,hoo,one4_ok,trivial⟩ ?_
   exact⟨(k,aZ (aZ o o) one4,outT smod.Γ tys 100 smod.L (smod.st b ty (k+1) o g [(26,[true])])),pair_eta' _,⟨by simp only;omega,plusL_ok hoo one4_ok,by rw[←hr];simp only[modS,hb]⟩,Nat.lt_succ_self _⟩
  | false=>
   refine Runs.aG ah mixed (tab_get (smod.tab0 b ty o g) k (by omega)) ⟨ho,ho,hb,trivial⟩ ?_
   exact⟨(k,aZ o o,outT smod.Γ tys 100 smod.L (smod.st b ty (k+1) o g [(26,[false])])),pair_eta' _,⟨by simp only;omega,hoo,by rw[←hr];simp only[modS,hb]⟩,Nat.lt_succ_self _⟩
noncomputable def smod_con:Con Tryz.prog GX:=conSlc ah 70 Tryz.f70 Tryz.func70 (by kernel_rfl) (c:=smod.body) (by kernel_rfl) 32 cB32 (fun b=>cN4.enc (modN b)) (fun _=>[]) (fun _=>rfl) (fun b ty _=>smod_mem b ty)
theorem modS_ok {b:B32}:∀(k:Nat) (o:N4),N4Ok o→N4Ok (modS b k o)
 | 0,o,ho=>ho
 | k+1,o,ho=>by
  unfold modS
  have hoo:=plusL_ok ho ho
  cases bitB b k with
  | true=>exact modS_ok k _ (plusL_ok hoo one4_ok)
  | false=>exact modS_ok k _ hoo
theorem modN_ok (b:B32):N4Ok (modN b):=modS_ok 256 _ dw
noncomputable def mulS (x y:N4):Nat→N4→N4
 | 0,o=>o
 | k+1,o=>mulS x y k (match bitW x k with
  | true=>aZ (aZ o o) y
  | false=>aZ o o)
end Go.Proofs.YthlmepolmemejaaGreatDoor
namespace Go.Proofs.YthlmepolmemejaaGreatDoor
open Go Go.Eng
set_option linter.unusedVariables false
set_option maxRecDepth 100000
namespace smul
noncomputable abbrev fn:=Tryz.f39
noncomputable def body:Code:=bL fn
noncomputable def A:Code:=cs1 body
noncomputable def B:Code:=cs1 (cs2 body)
noncomputable def B2:Code:=cs1 (cs2 (cs2 body))
noncomputable def C:Code:=cs1 (cs1 (cs2 (cs2 (cs2 body))))
noncomputable def L:Code:=cL (cB (cs2 (cs1 (cs2 (cs2 (cs2 body))))))
noncomputable def D:Code:=cs2 (cs2 (cs2 (cs2 body)))
theorem bU:body= .seq A (.seq B (.seq B2 (.seq (.seq C (.block 0 (.loop L))) D))):=by kernel_rfl
noncomputable def Γ:Cons Tryz.prog GX:=[smod_con,splus_con,sbytes_con]
section
variable (a b c:B32)
noncomputable def S (x y:N4) (k:Nat) (o:N4) (g:Nat→SV):List SV × List Blk:=([cB32.enc a,cB32.enc b,cB32.enc c,.o (.a (.ptr 0 0)),.o (.a (.ptr 1 0)),.o (.a (.ptr 2 0)),.o (.a (.ptr 3 0)),.o (.a (.ptr 4 0)),.o (.a (.ptr 5 0)),.o (.a (.ptr 6 0)),(cInt .i64).enc ((k:Int)-1),g 11,g 12,g 13,g 14,g 15,g 16,g 17,g 18,g 19,g 20,g 21,g 22,g 23,g 24,g 25,g 26,g 27,g 28,g 29,g 30,g 31,g 32,g 33,g 34,g 35,g 36,g 37,g 38,g 39],[⟨true,26,cB32.row a⟩,⟨true,26,cB32.row b⟩,⟨true,26,cB32.row c⟩,⟨true,26,cB32.row aA⟩,⟨true,99,cN4.row x⟩,⟨true,99,cN4.row y⟩,⟨true,99,cN4.row o⟩])
noncomputable def st (x y:N4) (k:Nat) (o:N4) (g:Nat→SV) (r:Orc):St:=⟨(S a b c x y k o g).1,(S a b c x y k o g).2,r⟩
noncomputable def s0 (x y:N4):St:=⟨aB fn [cB32.enc a,cB32.enc b,cB32.enc c],[],[]⟩
noncomputable def s1 (x y:N4):St:=outS Γ tys 100 A (s0 a b c x y)
theorem preA (x y:N4):exec Γ tys 100 A (s0 a b c x y)=some (.normal,⟨(s1 a b c x y).tm,(s1 a b c x y).mem,[]⟩,[]):=by kernel_rfl
noncomputable def s2 (x y:N4):St:=outS Γ tys 100 B ⟨(s1 a b c x y).tm,(s1 a b c x y).mem,[(12,[.s (cN4.enc x)]),(14,[.s (cN4.enc y)])]⟩
theorem preB (x y:N4):exec Γ tys 100 B ⟨(s1 a b c x y).tm,(s1 a b c x y).mem,[(12,[.s (cN4.enc x)]),(14,[.s (cN4.enc y)])]⟩=some (.normal,⟨(s2 a b c x y).tm,(s2 a b c x y).mem,[(12,[]),(14,[])]⟩,[cN4.enc (modN a)=cN4.enc x,cN4.enc (modN b)=cN4.enc y]):=by kernel_rfl
noncomputable def s3 (x y:N4):St:=outS Γ tys 100 B2 (s2 a b c x y)
theorem preB2 (x y:N4):exec Γ tys 100 B2 ⟨(s2 a b c x y).tm,(s2 a b c x y).mem,[]⟩=some (.normal,⟨(s3 a b c x y).tm,(s3 a b c x y).mem,[]⟩,[]):=by kernel_rfl
theorem preC (x y:N4):exec Γ tys 100 C ⟨(s3 a b c x y).tm,(s3 a b c x y).mem,[]⟩=some (.normal,st a b c x y 256 aT (outT Γ tys 100 C (s3 a b c x y)) [],[]):=by kernel_rfl
theorem tab1 (x y:N4) (o:N4) (g:Nat→SV):tabL (fun j=>exec Γ tys 100 L (st a b c x y (j+1) o g [(31,[true])])) 256=tabR (fun j=>some (.normal,st a b c x y j (aZ (aZ o o) y) (outT Γ tys 100 L (st a b c x y (j+1) o g [(31,[true])])) [(31,[])],[N4Ok o,N4Ok o,bitW x j=true,N4Ok (aZ o o),N4Ok y])) 256:=by kernel_rfl
theorem tab0 (x y:N4) (o:N4) (g:Nat→SV):tabL (fun j=>exec Γ tys 100 L (st a b c x y (j+1) o g [(31,[false])])) 256=tabR (fun j=>some (.normal,st a b c x y j (aZ o o) (outT Γ tys 100 L (st a b c x y (j+1) o g [(31,[false])])) [(31,[])],[N4Ok o,N4Ok o,bitW x j=false])) 256:=by kernel_rfl
theorem last (x y:N4) (o:N4) (g:Nat→SV):exec Γ tys 100 L (st a b c x y 0 o g [])=some (.exit 0,st a b c x y 0 o (outT Γ tys 100 L (st a b c x y 0 o g [])) [],[]):=by kernel_rfl
noncomputable def fin (x y:N4) (o:N4) (g:Nat→SV):St:=outS Γ tys 100 D (st a b c x y 0 o g [])
theorem post (x y:N4) (o:N4) (g:Nat→SV):exec Γ tys 100 D (st a b c x y 0 o g [])=some (.ret,⟨(fin a b c x y o g).tm,(fin a b c x y o g).mem,[]⟩,[N4Ok o,N4Ok (modN c)]):=by kernel_rfl
theorem result (x y:N4) (o:N4) (g:Nat→SV):eRes tys (fin a b c x y o g).tm (fun k=>(fin a b c x y o g).mem[k]?) fn.results.toList=some [.g (cB32.row (bytes4 (aZ o (modN c))))]:=by kernel_rfl
end
end smul
noncomputable def smulN (a b:B32):N4:=mulS (modN a) (modN b) 256 aT
noncomputable def smulB (a b c:B32):B32:=bytes4 (aZ (smulN a b) (modN c))
theorem smul_loop (a b c:B32) (x y:N4) (hy:N4Ok y) (g:Nat→SV) {Post:Ex→List SV→List Blk→Prop} (hp:∀o g',N4Ok o→o=mulS x y 256 aT→Post .normal (smul.S a b c x y 0 o g').1 (smul.S a b c x y 0 o g').2):
  Runs Tryz.prog GX (.block 0 (.loop smul.L)) (smul.S a b c x y 256 aT g).1 (smul.S a b c x y 256 aT g).2 Post:=by
 refine Runs.block ?_
 refine Runs.loop (fun(t:Nat × N4 × (Nat→SV))=>smul.S a b c x y t.1 t.2.1 t.2.2) (fun t=>t.1≤256∧N4Ok t.2.1∧mulS x y t.1 t.2.1=mulS x y 256 aT) (fun t=>t.1) ?_ (256,aT,g) ⟨Nat.le_refl _,dw,rfl⟩
 rintro⟨k,o,g⟩ ⟨hk,ho,hr⟩
 simp only at hk ho hr
 cases k with
 | zero=>
  rw[mulS] at hr
  exact Runs.aG ah mixed (smul.last a b c x y o g) trivial (hp _ _ ho hr)
 | succ k=>
  have hoo:=plusL_ok ho ho
  cases hb:bitW x k with
  | true=>
   exact Runs.aG ah mixed (tab_get (smul.tab1 a b c x y o g) k (by omega)) ⟨ho,ho,hb,hoo,hy,trivial⟩
    ⟨(k,aZ (aZ o o) y,outT smul.Γ tys 100 smul.L (smul.st a b c x y (k+1) o g [(31,[true])])),pair_eta' _,⟨by simp only;omega,plusL_ok hoo hy,by rw[←hr];simp only[mulS,hb]⟩,Nat.lt_succ_self _⟩
  | false=>
   exact Runs.aG ah mixed (tab_get (smul.tab0 a b c x y o g) k (by omega)) ⟨ho,ho,hb,trivial⟩
    ⟨(k,aZ o o,outT smul.Γ tys 100 smul.L (smul.st a b c x y (k+1) o g [(31,[false])])),pair_eta' _,⟨by simp only;omega,hoo,by rw[←hr];simp only[mulS,hb]⟩,Nat.lt_succ_self _⟩
theorem smul_last (a b c:B32) (x y o:N4) (g:Nat→SV) (ho:N4Ok o):Runs Tryz.prog GX smul.D (smul.S a b c x y 0 o g).1 (smul.S a b c x y 0 o g).2 (Go.Eng.Ends tys smul.fn (cB32.enc (bytes4 (aZ o (modN c))))):=
 Runs.aG ah mixed (smul.post a b c x y o g) ⟨ho,modN_ok c,trivial⟩ (Ends.ret (smul.result a b c x y o g) rfl)
theorem smul_fn (a b c:B32):FnOk Tryz.prog GX 39 [cB32.enc a,cB32.enc b,cB32.enc c] (cB32.enc (smulB a b c)):=by
 refine FnOk.of_runs ah Tryz.func39 (c:=smul.body) (by kernel_rfl) ?_ rfl rfl
 rw[smul.bU]
 refine Runs.seq (Runs.aG ah mixed (smul.preA a b c (modN a) (modN b)) trivial ?_)
 refine Runs.seq (Runs.aG ah mixed (smul.preB a b c (modN a) (modN b)) ⟨rfl,rfl,trivial⟩ ?_)
 refine Runs.seq (Runs.aG ah mixed (smul.preB2 a b c (modN a) (modN b)) trivial ?_)
 refine Runs.seq (Runs.seq (Runs.aG ah mixed (smul.preC a b c (modN a) (modN b)) trivial ?_))
 refine smul_loop a b c (modN a) (modN b) (modN_ok b) _ fun o g' ho hr=> ?_
 have he:=smul_last a b c (modN a) (modN b) o g' ho
 rw[hr] at he ⊢
 exact he
noncomputable def smul_con:Con Tryz.prog GX:=con3 39 Tryz.f39 Tryz.func39 (by kernel_rfl) (by kernel_rfl) (cB32) (cB32) (cB32) (fun a b c=>cB32.enc (smulB a b c)) (fun _ _ _=>[]) (fun _ _ _=>rfl) (fun a b c _=>smul_fn a b c)
end Go.Proofs.YthlmepolmemejaaGreatDoor
namespace Go.Proofs.YthlmepolmemejaaGreatDoor
open Go Go.Eng
set_option linter.unusedVariables false
set_option maxRecDepth 100000
structure P16 where
 x:N4
 y:N4
 z:N4
 t:N4
def P16.to (p:P16):List Int:=[p.x.l0,p.x.l1,p.x.l2,p.x.l3,p.y.l0,p.y.l1,p.y.l2,p.y.l3,p.z.l0,p.z.l1,p.z.l2,p.z.l3,p.t.l0,p.t.l1,p.t.l2,p.t.l3]
def P16.of:List Int→Option P16
 | [a0,a1,a2,a3,b0,b1,b2,b3,c0,c1,c2,c3,d0,d1,d2,d3]=>some ⟨⟨a0,a1,a2,a3⟩,⟨b0,b1,b2,b3⟩,⟨c0,c1,c2,c3⟩,⟨d0,d1,d2,d3⟩⟩
 | _=>none
theorem P16.of_to:∀l a,P16.of l=some a→P16.to a=l:=by
 intro l a h
 unfold P16.of at h
 split at h<;>cases h
 rfl
def cQ:Cod P16:=cRow .u64 P16.to P16.of P16.of_to
def QOk (p:P16):Prop:=N4Ok p.x∧N4Ok p.y∧N4Ok p.z∧N4Ok p.t
def d4:N4:=⟨8496970652267935907,31536524315187371,10144147576115030168,5909686906226998899⟩
theorem rD_fn:FnOk Tryz.prog GX 107 [] (cN4.enc d4):=
 FnOk.av (Γ:=([]:Cons Tryz.prog GX)) ah mixed Tryz.func107 (n:=100) (orc:=[]) (cs:=[]) (by kernel_rfl) trivial rfl rfl
def rD_con:Con Tryz.prog GX:=con0 107 Tryz.f107 Tryz.func107 (by kernel_rfl) (by kernel_rfl) (cN4.enc d4) [] rfl (fun _=>rD_fn)
def neutralQ:P16:=⟨aT,one4,one4,aT⟩
theorem qneutral_fn:FnOk Tryz.prog GX 110 [] (cQ.enc neutralQ):=
 FnOk.av (Γ:=[rsmall_con]) ah mixed Tryz.func110 (n:=100) (orc:=[]) (cs:=[]) (by kernel_rfl) trivial rfl rfl
noncomputable def qneutral_con:Con Tryz.prog GX:=con0 110 Tryz.f110 Tryz.func110 (by kernel_rfl) (by kernel_rfl) (cQ.enc neutralQ) [] rfl (fun _=>qneutral_fn)
noncomputable def sumA (p q:P16):N4:=aL (bB p.y p.x) (bB q.y q.x)
noncomputable def sumB (p q:P16):N4:=aL (plusN p.y p.x) (plusN q.y q.x)
noncomputable def sumC (p q:P16):N4:=aL (aL p.t q.t) (plusN d4 d4)
noncomputable def sumD (p q:P16):N4:=aL (plusN p.z p.z) q.z
noncomputable def mixQ (a b c d:N4):P16:=⟨aL (bB b a) (bB d c),aL (plusN d c) (plusN b a),aL (bB d c) (plusN d c),aL (bB b a) (plusN b a)⟩
noncomputable def sumQ (p q:P16):P16:=mixQ (sumA p q) (sumB p q) (sumC p q) (sumD p q)
theorem one4_ok':N4Ok one4:=by unfold N4Ok Word;decide
theorem d4_ok:N4Ok d4:=by unfold N4Ok Word;decide
theorem plus_ok {a b:N4} (ha:N4Ok a) (hb:N4Ok b):N4Ok (plusN a b):=(plusN_val ha hb).1
theorem minus_ok {a b:N4} (ha:N4Ok a) (hb:N4Ok b):N4Ok (bB a b):=(minusN_val ha hb).1
theorem cO {a b:N4} (ha:N4Ok a) (hb:N4Ok b):N4Ok (aL a b):=(timesN_val ha hb).1
theorem qsum_fn (p q:P16) (hp:Holds [QOk p,QOk q]):FnOk Tryz.prog GX 59 [cQ.enc p,cQ.enc q] (cQ.enc (sumQ p q)):=by
 obtain⟨⟨px,py,pz,pt⟩,⟨qx,qy,qz,qt⟩,-⟩:=hp
 have a1:=minus_ok py px
 have a2:=minus_ok qy qx
 have b1:=plus_ok py px
 have b2:=plus_ok qy qx
 have c1:=cO pt qt
 have c2:=plus_ok d4_ok d4_ok
 have e1:=plus_ok pz pz
 have a:N4Ok (sumA p q):=cO a1 a2
 have b:N4Ok (sumB p q):=cO b1 b2
 have c:N4Ok (sumC p q):=cO c1 c2
 have d:N4Ok (sumD p q):=cO e1 qz
 have e:=minus_ok b a
 have f:=minus_ok d c
 have g:=plus_ok d c
 have h:=plus_ok b a
 exact FnOk.av (Γ:=[rtimes_con,rplus_con,rminus_con,rD_con]) ah mixed Tryz.func59 (n:=100) (orc:=[])
  (cs:=[N4Ok p.y,N4Ok p.x,N4Ok q.y,N4Ok q.x,N4Ok (bB p.y p.x),N4Ok (bB q.y q.x),N4Ok p.y,N4Ok p.x,N4Ok q.y,N4Ok q.x,N4Ok (plusN p.y p.x),N4Ok (plusN q.y q.x),N4Ok p.t,N4Ok q.t,N4Ok d4,N4Ok d4,N4Ok (aL p.t q.t),N4Ok (plusN d4 d4),
   N4Ok p.z,N4Ok p.z,N4Ok (plusN p.z p.z),N4Ok q.z,N4Ok (sumB p q),N4Ok (sumA p q),N4Ok (sumD p q),N4Ok (sumC p q),N4Ok (sumD p q),N4Ok (sumC p q),N4Ok (sumB p q),N4Ok (sumA p q),
   N4Ok (bB (sumB p q) (sumA p q)),N4Ok (bB (sumD p q) (sumC p q)),N4Ok (plusN (sumD p q) (sumC p q)),N4Ok (plusN (sumB p q) (sumA p q)),N4Ok (bB (sumD p q) (sumC p q)),N4Ok (plusN (sumD p q) (sumC p q)),N4Ok (bB (sumB p q) (sumA p q)),N4Ok (plusN (sumB p q) (sumA p q))]) (by kernel_rfl)
  ⟨py,px,qy,qx,a1,a2,py,px,qy,qx,b1,b2,pt,qt,d4_ok,d4_ok,c1,c2,pz,pz,e1,qz,b,a,d,c,d,c,b,a,e,f,g,h,f,g,e,h,trivial⟩ rfl rfl
noncomputable def qsum_con:Con Tryz.prog GX:=con2 59 Tryz.f59 Tryz.func59 (by kernel_rfl) (by kernel_rfl) (cQ) (cQ) (fun p q=>cQ.enc (sumQ p q)) (fun p q=>[QOk p,QOk q]) (fun _ _=>rfl) (fun p q h=>qsum_fn p q h)
theorem sumQ_ok {p q:P16} (hp:QOk p) (hq:QOk q):QOk (sumQ p q):=by
 obtain⟨px,py,pz,pt⟩:=hp
 obtain⟨qx,qy,qz,qt⟩:=hq
 have a:N4Ok (sumA p q):=cO (minus_ok py px) (minus_ok qy qx)
 have b:N4Ok (sumB p q):=cO (plus_ok py px) (plus_ok qy qx)
 have c:N4Ok (sumC p q):=cO (cO pt qt) (plus_ok d4_ok d4_ok)
 have d:N4Ok (sumD p q):=cO (plus_ok pz pz) qz
 exact⟨cO (minus_ok b a) (minus_ok d c),cO (plus_ok d c) (plus_ok b a),cO (minus_ok d c) (plus_ok d c),cO (minus_ok b a) (plus_ok b a)⟩
noncomputable def negQ (p:P16):P16:=⟨bB aT p.x,p.y,p.z,bB aT p.t⟩
noncomputable def qX (p:P16):N4:=bD (aL p.x (invN p.z))
noncomputable def qY (p:P16):B32:=bytes4 (bD (aL p.y (invN p.z)))
noncomputable def encQ (p:P16):B32:=set31 (qY p) (bits .or .u8 (qY p).b31 (IntKind.u8.wrap (IntKind.u8.wrap ((qX p).l0.tmod 2)*2^7)))
theorem inv_ok {a:N4} (ha:N4Ok a):N4Ok (invN a):=(invN_val ha).1
theorem qenc_fn (p:P16) (hp:Holds [QOk p]):FnOk Tryz.prog GX 58 [cQ.enc p] (cB32.enc (encQ p)):=by
 obtain⟨⟨px,py,pz,pt⟩,-⟩:=hp
 have hi:=inv_ok pz
 exact FnOk.av (Γ:=[rinverse_con,rtimes_con,rleast_con,rbytes_con]) ah mixed Tryz.func58 (n:=100) (orc:=[])
  (cs:=[N4Ok p.z,N4Ok p.x,N4Ok (invN p.z),N4Ok (aL p.x (invN p.z)),N4Ok p.y,N4Ok (invN p.z),N4Ok (aL p.y (invN p.z))]) (by kernel_rfl)
  ⟨pz,px,hi,cO px hi,py,hi,cO py hi,trivial⟩ rfl rfl
noncomputable def qenc_con:Con Tryz.prog GX:=con1 58 Tryz.f58 Tryz.func58 (by kernel_rfl) (by kernel_rfl) (cQ) (fun p=>cB32.enc (encQ p)) (fun p=>[QOk p]) (fun _=>rfl) (fun p h=>qenc_fn p h)
end Go.Proofs.YthlmepolmemejaaGreatDoor
namespace Go.Proofs.YthlmepolmemejaaGreatDoor
open Go Go.Eng
set_option linter.unusedVariables false
set_option maxRecDepth 100000
noncomputable def qy (b:B32):N4:=fromN (aU b)
noncomputable def qyy (b:B32):N4:=aL (qy b) (qy b)
noncomputable def qu (b:B32):N4:=bB (qyy b) one4
noncomputable def qv (b:B32):N4:=plusN (aL d4 (qyy b)) one4
noncomputable def qq (b:B32):N4:=aL (qu b) (invN (qv b))
noncomputable def qr (b:B32):N4:=bD (rt1 (qq b))
noncomputable def qpar (b:B32):Bool:=IntKind.u8.wrap ((qr b).l0.tmod 2) !=b.b31.fdiv (2^7)
noncomputable def qx (b:B32):N4:=match qpar b with
 | true=>bD (bB aT (qr b))
 | false=>qr b
def noneQ:P16:=⟨aT,aT,aT,aT⟩
noncomputable def qOk (b:B32):Bool:=match bJ (fromN (aU b)) p4 with
 | false=>false
 | true=>match rtOk (qq b) with
  | false=>false
  | true=>match eqI (qr b).to aT.to with
   | false=>true
   | true=> !(b.b31.fdiv (2^7)==1)
noncomputable def qP (b:B32):P16:=match qOk b with
 | false=>noneQ
 | true=>⟨qx b,qy b,one4,aL (qx b) (qy b)⟩
noncomputable def flagQ (p:P16) (b:Bool):SV:= .t [.g (cQ.row p),.a (bool1 b)]
theorem least_ok {a:N4} (ha:N4Ok a):N4Ok (bD a):=(leastN_val ha).1
theorem qdec_ok {b:B32} (hb:BOk b):N4Ok (qy b)∧N4Ok (qyy b)∧N4Ok (qu b)∧N4Ok (aL d4 (qyy b))∧N4Ok (qv b)∧N4Ok (invN (qv b))∧N4Ok (qq b)∧N4Ok (qr b):=by
 have hy:=(fromN_val (low31_val hb).1).1
 have hyy:=cO hy hy
 have hu:=minus_ok hyy one4_ok'
 have hdv:=cO d4_ok hyy
 have hv:=plus_ok hdv one4_ok'
 have hi:=inv_ok hv
 have hq:=cO hu hi
 exact⟨hy,hyy,hu,hdv,hv,hi,hq,least_ok (rt1_val hq).1⟩
theorem qx_ok {b:B32} (hb:BOk b):N4Ok (qx b):=by
 have hr:=(qdec_ok hb).2.2.2.2.2.2.2
 unfold qx
 cases qpar b with
 | true=>exact least_ok (minus_ok dw hr)
 | false=>exact hr
theorem noneQ_ok:QOk noneQ:=⟨dw,dw,dw,dw⟩
theorem qP_ok {b:B32} (hb:BOk b):QOk (qP b):=by
 unfold qP
 cases qOk b with
 | false=>exact noneQ_ok
 | true=>exact⟨qx_ok hb,(qdec_ok hb).1,one4_ok',cO (qx_ok hb) (qdec_ok hb).1⟩
theorem qdec_noroot (b:B32) (y yy u dv v iv q r m x:N4) (h1:bJ (fromN (aU b)) p4=true) (ey:cN4.enc (fromN (aU b))=cN4.enc y) (eyy:cN4.enc (aL y y)=cN4.enc yy) (eu:cN4.enc (bB yy one4)=cN4.enc u) (edv:cN4.enc (aL d4 yy)=cN4.enc dv) (ev:cN4.enc (plusN dv one4)=cN4.enc v) (eiv:cN4.enc (invN v)=cN4.enc iv) (eq:cN4.enc (aL u iv)=cN4.enc q) (ky:N4Ok y) (kyy:N4Ok yy) (ku:N4Ok u) (kdv:N4Ok dv) (kv:N4Ok v) (kiv:N4Ok iv) (kq:N4Ok q) (h2:flagN (bD (rt1 q)) (rtOk q)=flagN r false):
  FnOk Tryz.prog GX 56 [cB32.enc b] (flagQ noneQ false):=
 FnOk.av (Γ:=[rcanonical_con,rfrom_con,rtimes_con,rsmall_con,rminus_con,rD_con,rplus_con,rinverse_con,rroot_con,rleast_con]) ah mixed Tryz.func56 (n:=100) (orc:=[(17,[true]),(21,[.s (cN4.enc y)]),(24,[.s (cN4.enc yy)]),(28,[.s (cN4.enc u)]),(31,[.s (cN4.enc dv)]),(33,[.s (cN4.enc v)]),(34,[.s (cN4.enc iv)]),(35,[.s (cN4.enc q)]),(36,[.s (flagN r false)])])
  (cs:=[bJ (fromN (aU b)) p4=true,cN4.enc (fromN (aU b))=cN4.enc y,N4Ok y,N4Ok y,cN4.enc (aL y y)=cN4.enc yy,N4Ok yy,N4Ok one4,cN4.enc (bB yy one4)=cN4.enc u,N4Ok d4,N4Ok yy,cN4.enc (aL d4 yy)=cN4.enc dv,N4Ok dv,N4Ok one4,cN4.enc (plusN dv one4)=cN4.enc v,N4Ok v,cN4.enc (invN v)=cN4.enc iv,N4Ok u,N4Ok iv,cN4.enc (aL u iv)=cN4.enc q,N4Ok q,flagN (bD (rt1 q)) (rtOk q)=flagN r false]) (by kernel_rfl)
  ⟨h1,ey,ky,ky,eyy,kyy,one4_ok',eu,d4_ok,kyy,edv,kdv,one4_ok',ev,kv,eiv,ku,kiv,eq,kq,h2,trivial⟩ rfl rfl
theorem qdec_odd0 (b:B32) (y yy u dv v iv q r m x:N4) (h1:bJ (fromN (aU b)) p4=true) (ey:cN4.enc (fromN (aU b))=cN4.enc y) (eyy:cN4.enc (aL y y)=cN4.enc yy) (eu:cN4.enc (bB yy one4)=cN4.enc u) (edv:cN4.enc (aL d4 yy)=cN4.enc dv) (ev:cN4.enc (plusN dv one4)=cN4.enc v) (eiv:cN4.enc (invN v)=cN4.enc iv) (eq:cN4.enc (aL u iv)=cN4.enc q) (ky:N4Ok y) (kyy:N4Ok yy) (ku:N4Ok u) (kdv:N4Ok dv) (kv:N4Ok v) (kiv:N4Ok iv) (kq:N4Ok q) (h2:flagN (bD (rt1 q)) (rtOk q)=flagN r true) (h3:eqI r.to aT.to=true) (h4:(b.b31.fdiv (2^7)==1)=true):
  FnOk Tryz.prog GX 56 [cB32.enc b] (flagQ noneQ false):=
 FnOk.av (Γ:=[rcanonical_con,rfrom_con,rtimes_con,rsmall_con,rminus_con,rD_con,rplus_con,rinverse_con,rroot_con,rleast_con]) ah mixed Tryz.func56 (n:=100) (orc:=[(17,[true]),(21,[.s (cN4.enc y)]),(24,[.s (cN4.enc yy)]),(28,[.s (cN4.enc u)]),(31,[.s (cN4.enc dv)]),(33,[.s (cN4.enc v)]),(34,[.s (cN4.enc iv)]),(35,[.s (cN4.enc q)]),(36,[.s (flagN r true)]),(44,[true]),(47,[true])])
  (cs:=[bJ (fromN (aU b)) p4=true,cN4.enc (fromN (aU b))=cN4.enc y,N4Ok y,N4Ok y,cN4.enc (aL y y)=cN4.enc yy,N4Ok yy,N4Ok one4,cN4.enc (bB yy one4)=cN4.enc u,N4Ok d4,N4Ok yy,cN4.enc (aL d4 yy)=cN4.enc dv,N4Ok dv,N4Ok one4,cN4.enc (plusN dv one4)=cN4.enc v,N4Ok v,cN4.enc (invN v)=cN4.enc iv,N4Ok u,N4Ok iv,cN4.enc (aL u iv)=cN4.enc q,N4Ok q,flagN (bD (rt1 q)) (rtOk q)=flagN r true,eqI r.to aT.to=true,(b.b31.fdiv (2^7)==1)=true]) (by kernel_rfl)
  ⟨h1,ey,ky,ky,eyy,kyy,one4_ok',eu,d4_ok,kyy,edv,kdv,one4_ok',ev,kv,eiv,ku,kiv,eq,kq,h2,h3,h4,trivial⟩ rfl rfl
theorem qdec_par_a (b:B32) (y yy u dv v iv q r m x:N4) (h1:bJ (fromN (aU b)) p4=true) (ey:cN4.enc (fromN (aU b))=cN4.enc y) (eyy:cN4.enc (aL y y)=cN4.enc yy) (eu:cN4.enc (bB yy one4)=cN4.enc u) (edv:cN4.enc (aL d4 yy)=cN4.enc dv) (ev:cN4.enc (plusN dv one4)=cN4.enc v) (eiv:cN4.enc (invN v)=cN4.enc iv) (eq:cN4.enc (aL u iv)=cN4.enc q) (ky:N4Ok y) (kyy:N4Ok yy) (ku:N4Ok u) (kdv:N4Ok dv) (kv:N4Ok v) (kiv:N4Ok iv) (kq:N4Ok q) (h2:flagN (bD (rt1 q)) (rtOk q)=flagN r true) (h3:eqI r.to aT.to=false) (h5:(IntKind.u8.wrap (r.l0.tmod 2) !=b.b31.fdiv (2^7))=true) (kr:N4Ok r) (em:cN4.enc (bB aT r)=cN4.enc m) (km:N4Ok m) (ex:cN4.enc (bD m)=cN4.enc x) (kx:N4Ok x):
  FnOk Tryz.prog GX 56 [cB32.enc b] (flagQ ⟨x,y,one4,aL x y⟩ true):=
 FnOk.av (Γ:=[rcanonical_con,rfrom_con,rtimes_con,rsmall_con,rminus_con,rD_con,rplus_con,rinverse_con,rroot_con,rleast_con]) ah mixed Tryz.func56 (n:=100) (orc:=[(17,[true]),(21,[.s (cN4.enc y)]),(24,[.s (cN4.enc yy)]),(28,[.s (cN4.enc u)]),(31,[.s (cN4.enc dv)]),(33,[.s (cN4.enc v)]),(34,[.s (cN4.enc iv)]),(35,[.s (cN4.enc q)]),(36,[.s (flagN r true)]),(44,[false]),(55,[true]),(58,[.s (cN4.enc m)]),(59,[.s (cN4.enc x)])])
  (cs:=[bJ (fromN (aU b)) p4=true,cN4.enc (fromN (aU b))=cN4.enc y,N4Ok y,N4Ok y,cN4.enc (aL y y)=cN4.enc yy,N4Ok yy,N4Ok one4,cN4.enc (bB yy one4)=cN4.enc u,N4Ok d4,N4Ok yy,cN4.enc (aL d4 yy)=cN4.enc dv,N4Ok dv,N4Ok one4,cN4.enc (plusN dv one4)=cN4.enc v,N4Ok v,cN4.enc (invN v)=cN4.enc iv,N4Ok u,N4Ok iv,cN4.enc (aL u iv)=cN4.enc q,N4Ok q,flagN (bD (rt1 q)) (rtOk q)=flagN r true,eqI r.to aT.to=false,(IntKind.u8.wrap (r.l0.tmod 2) !=b.b31.fdiv (2^7))=true,N4Ok aT,N4Ok r,cN4.enc (bB aT r)=cN4.enc m,N4Ok m,cN4.enc (bD m)=cN4.enc x,N4Ok x,N4Ok y]) (by kernel_rfl)
  ⟨h1,ey,ky,ky,eyy,kyy,one4_ok',eu,d4_ok,kyy,edv,kdv,one4_ok',ev,kv,eiv,ku,kiv,eq,kq,h2,h3,h5,dw,kr,em,km,ex,kx,ky,trivial⟩ rfl rfl
theorem qdec_nopar_a (b:B32) (y yy u dv v iv q r m x:N4) (h1:bJ (fromN (aU b)) p4=true) (ey:cN4.enc (fromN (aU b))=cN4.enc y) (eyy:cN4.enc (aL y y)=cN4.enc yy) (eu:cN4.enc (bB yy one4)=cN4.enc u) (edv:cN4.enc (aL d4 yy)=cN4.enc dv) (ev:cN4.enc (plusN dv one4)=cN4.enc v) (eiv:cN4.enc (invN v)=cN4.enc iv) (eq:cN4.enc (aL u iv)=cN4.enc q) (ky:N4Ok y) (kyy:N4Ok yy) (ku:N4Ok u) (kdv:N4Ok dv) (kv:N4Ok v) (kiv:N4Ok iv) (kq:N4Ok q) (h2:flagN (bD (rt1 q)) (rtOk q)=flagN r true) (h3:eqI r.to aT.to=false) (h5:(IntKind.u8.wrap (r.l0.tmod 2) !=b.b31.fdiv (2^7))=false) (kr:N4Ok r):
  FnOk Tryz.prog GX 56 [cB32.enc b] (flagQ ⟨r,y,one4,aL r y⟩ true):=
 FnOk.av (Γ:=[rcanonical_con,rfrom_con,rtimes_con,rsmall_con,rminus_con,rD_con,rplus_con,rinverse_con,rroot_con,rleast_con]) ah mixed Tryz.func56 (n:=100) (orc:=[(17,[true]),(21,[.s (cN4.enc y)]),(24,[.s (cN4.enc yy)]),(28,[.s (cN4.enc u)]),(31,[.s (cN4.enc dv)]),(33,[.s (cN4.enc v)]),(34,[.s (cN4.enc iv)]),(35,[.s (cN4.enc q)]),(36,[.s (flagN r true)]),(44,[false]),(55,[false])])
  (cs:=[bJ (fromN (aU b)) p4=true,cN4.enc (fromN (aU b))=cN4.enc y,N4Ok y,N4Ok y,cN4.enc (aL y y)=cN4.enc yy,N4Ok yy,N4Ok one4,cN4.enc (bB yy one4)=cN4.enc u,N4Ok d4,N4Ok yy,cN4.enc (aL d4 yy)=cN4.enc dv,N4Ok dv,N4Ok one4,cN4.enc (plusN dv one4)=cN4.enc v,N4Ok v,cN4.enc (invN v)=cN4.enc iv,N4Ok u,N4Ok iv,cN4.enc (aL u iv)=cN4.enc q,N4Ok q,flagN (bD (rt1 q)) (rtOk q)=flagN r true,eqI r.to aT.to=false,(IntKind.u8.wrap (r.l0.tmod 2) !=b.b31.fdiv (2^7))=false,N4Ok r,N4Ok y]) (by kernel_rfl)
  ⟨h1,ey,ky,ky,eyy,kyy,one4_ok',eu,d4_ok,kyy,edv,kdv,one4_ok',ev,kv,eiv,ku,kiv,eq,kq,h2,h3,h5,kr,ky,trivial⟩ rfl rfl
theorem qdec_par_b (b:B32) (y yy u dv v iv q r m x:N4) (h1:bJ (fromN (aU b)) p4=true) (ey:cN4.enc (fromN (aU b))=cN4.enc y) (eyy:cN4.enc (aL y y)=cN4.enc yy) (eu:cN4.enc (bB yy one4)=cN4.enc u) (edv:cN4.enc (aL d4 yy)=cN4.enc dv) (ev:cN4.enc (plusN dv one4)=cN4.enc v) (eiv:cN4.enc (invN v)=cN4.enc iv) (eq:cN4.enc (aL u iv)=cN4.enc q) (ky:N4Ok y) (kyy:N4Ok yy) (ku:N4Ok u) (kdv:N4Ok dv) (kv:N4Ok v) (kiv:N4Ok iv) (kq:N4Ok q) (h2:flagN (bD (rt1 q)) (rtOk q)=flagN r true) (h3:eqI r.to aT.to=true) (h4:(b.b31.fdiv (2^7)==1)=false) (h5:(IntKind.u8.wrap (r.l0.tmod 2) !=b.b31.fdiv (2^7))=true) (kr:N4Ok r) (em:cN4.enc (bB aT r)=cN4.enc m) (km:N4Ok m) (ex:cN4.enc (bD m)=cN4.enc x) (kx:N4Ok x):
  FnOk Tryz.prog GX 56 [cB32.enc b] (flagQ ⟨x,y,one4,aL x y⟩ true):=
 FnOk.av (Γ:=[rcanonical_con,rfrom_con,rtimes_con,rsmall_con,rminus_con,rD_con,rplus_con,rinverse_con,rroot_con,rleast_con]) ah mixed Tryz.func56 (n:=100) (orc:=[(17,[true]),(21,[.s (cN4.enc y)]),(24,[.s (cN4.enc yy)]),(28,[.s (cN4.enc u)]),(31,[.s (cN4.enc dv)]),(33,[.s (cN4.enc v)]),(34,[.s (cN4.enc iv)]),(35,[.s (cN4.enc q)]),(36,[.s (flagN r true)]),(44,[true]),(47,[false]),(55,[true]),(58,[.s (cN4.enc m)]),(59,[.s (cN4.enc x)])])
  (cs:=[bJ (fromN (aU b)) p4=true,cN4.enc (fromN (aU b))=cN4.enc y,N4Ok y,N4Ok y,cN4.enc (aL y y)=cN4.enc yy,N4Ok yy,N4Ok one4,cN4.enc (bB yy one4)=cN4.enc u,N4Ok d4,N4Ok yy,cN4.enc (aL d4 yy)=cN4.enc dv,N4Ok dv,N4Ok one4,cN4.enc (plusN dv one4)=cN4.enc v,N4Ok v,cN4.enc (invN v)=cN4.enc iv,N4Ok u,N4Ok iv,cN4.enc (aL u iv)=cN4.enc q,N4Ok q,flagN (bD (rt1 q)) (rtOk q)=flagN r true,eqI r.to aT.to=true,(b.b31.fdiv (2^7)==1)=false,(IntKind.u8.wrap (r.l0.tmod 2) !=b.b31.fdiv (2^7))=true,N4Ok aT,N4Ok r,cN4.enc (bB aT r)=cN4.enc m,N4Ok m,cN4.enc (bD m)=cN4.enc x,N4Ok x,N4Ok y]) (by kernel_rfl)
  ⟨h1,ey,ky,ky,eyy,kyy,one4_ok',eu,d4_ok,kyy,edv,kdv,one4_ok',ev,kv,eiv,ku,kiv,eq,kq,h2,h3,h4,h5,dw,kr,em,km,ex,kx,ky,trivial⟩ rfl rfl
theorem qdec_nopar_b (b:B32) (y yy u dv v iv q r m x:N4) (h1:bJ (fromN (aU b)) p4=true) (ey:cN4.enc (fromN (aU b))=cN4.enc y) (eyy:cN4.enc (aL y y)=cN4.enc yy) (eu:cN4.enc (bB yy one4)=cN4.enc u) (edv:cN4.enc (aL d4 yy)=cN4.enc dv) (ev:cN4.enc (plusN dv one4)=cN4.enc v) (eiv:cN4.enc (invN v)=cN4.enc iv) (eq:cN4.enc (aL u iv)=cN4.enc q) (ky:N4Ok y) (kyy:N4Ok yy) (ku:N4Ok u) (kdv:N4Ok dv) (kv:N4Ok v) (kiv:N4Ok iv) (kq:N4Ok q) (h2:flagN (bD (rt1 q)) (rtOk q)=flagN r true) (h3:eqI r.to aT.to=true) (h4:(b.b31.fdiv (2^7)==1)=false) (h5:(IntKind.u8.wrap (r.l0.tmod 2) !=b.b31.fdiv (2^7))=false) (kr:N4Ok r):
  FnOk Tryz.prog GX 56 [cB32.enc b] (flagQ ⟨r,y,one4,aL r y⟩ true):=
 FnOk.av (Γ:=[rcanonical_con,rfrom_con,rtimes_con,rsmall_con,rminus_con,rD_con,rplus_con,rinverse_con,rroot_con,rleast_con]) ah mixed Tryz.func56 (n:=100) (orc:=[(17,[true]),(21,[.s (cN4.enc y)]),(24,[.s (cN4.enc yy)]),(28,[.s (cN4.enc u)]),(31,[.s (cN4.enc dv)]),(33,[.s (cN4.enc v)]),(34,[.s (cN4.enc iv)]),(35,[.s (cN4.enc q)]),(36,[.s (flagN r true)]),(44,[true]),(47,[false]),(55,[false])])
  (cs:=[bJ (fromN (aU b)) p4=true,cN4.enc (fromN (aU b))=cN4.enc y,N4Ok y,N4Ok y,cN4.enc (aL y y)=cN4.enc yy,N4Ok yy,N4Ok one4,cN4.enc (bB yy one4)=cN4.enc u,N4Ok d4,N4Ok yy,cN4.enc (aL d4 yy)=cN4.enc dv,N4Ok dv,N4Ok one4,cN4.enc (plusN dv one4)=cN4.enc v,N4Ok v,cN4.enc (invN v)=cN4.enc iv,N4Ok u,N4Ok iv,cN4.enc (aL u iv)=cN4.enc q,N4Ok q,flagN (bD (rt1 q)) (rtOk q)=flagN r true,eqI r.to aT.to=true,(b.b31.fdiv (2^7)==1)=false,(IntKind.u8.wrap (r.l0.tmod 2) !=b.b31.fdiv (2^7))=false,N4Ok r,N4Ok y]) (by kernel_rfl)
  ⟨h1,ey,ky,ky,eyy,kyy,one4_ok',eu,d4_ok,kyy,edv,kdv,one4_ok',ev,kv,eiv,ku,kiv,eq,kq,h2,h3,h4,h5,kr,ky,trivial⟩ rfl rfl
theorem qdec_fn (b:B32) (hp:Holds [BOk b]):FnOk Tryz.prog GX 56 [cB32.enc b] (flagQ (qP b) (qOk b)):=by
 obtain⟨hy,hyy,hu,hdv,hv,hi,hq,hr⟩:=qdec_ok hp.1
 have hm:=minus_ok dw hr
 unfold qP
 unfold qOk
 cases h1:bJ (fromN (aU b)) p4 with
 | false=>exact FnOk.av (Γ:=[rcanonical_con,rfrom_con,rtimes_con,rsmall_con,rminus_con,rD_con,rplus_con,rinverse_con,rroot_con,rleast_con]) ah mixed Tryz.func56 (n:=100) (orc:=[(17,[false])]) (cs:=[bJ (fromN (aU b)) p4=false]) (by kernel_rfl) ⟨h1,trivial⟩ rfl rfl
 | true=>
  simp only
  cases h2:rtOk (qq b) with
  | false=>exact qdec_noroot b (qy b) (qyy b) (qu b) (aL d4 (qyy b)) (qv b) (invN (qv b)) (qq b) (qr b) (bB aT (qr b)) (bD (bB aT (qr b))) h1 rfl rfl rfl rfl rfl rfl rfl hy hyy hu hdv hv hi hq (by rw[h2];rfl)
  | true=>
   simp only
   cases h3:eqI (qr b).to aT.to with
   | false=>
    simp only
    unfold qx
    cases h5:qpar b with
    | true=>exact qdec_par_a b (qy b) (qyy b) (qu b) (aL d4 (qyy b)) (qv b) (invN (qv b)) (qq b) (qr b) (bB aT (qr b)) (bD (bB aT (qr b))) h1 rfl rfl rfl rfl rfl rfl rfl hy hyy hu hdv hv hi hq (by rw[h2];rfl) h3 h5 hr rfl hm rfl (least_ok hm)
    | false=>exact qdec_nopar_a b (qy b) (qyy b) (qu b) (aL d4 (qyy b)) (qv b) (invN (qv b)) (qq b) (qr b) (bB aT (qr b)) (bD (bB aT (qr b))) h1 rfl rfl rfl rfl rfl rfl rfl hy hyy hu hdv hv hi hq (by rw[h2];rfl) h3 h5 hr
   | true=>
    simp only
    cases h4:(b.b31.fdiv (2^7)==1) with
    | true=>exact qdec_odd0 b (qy b) (qyy b) (qu b) (aL d4 (qyy b)) (qv b) (invN (qv b)) (qq b) (qr b) (bB aT (qr b)) (bD (bB aT (qr b))) h1 rfl rfl rfl rfl rfl rfl rfl hy hyy hu hdv hv hi hq (by rw[h2];rfl) h3 h4
    | false=>
     simp only[Bool.not_false]
     unfold qx
     cases h5:qpar b with
     | true=>exact qdec_par_b b (qy b) (qyy b) (qu b) (aL d4 (qyy b)) (qv b) (invN (qv b)) (qq b) (qr b) (bB aT (qr b)) (bD (bB aT (qr b))) h1 rfl rfl rfl rfl rfl rfl rfl hy hyy hu hdv hv hi hq (by rw[h2];rfl) h3 h4 h5 hr rfl hm rfl (least_ok hm)
     | false=>exact qdec_nopar_b b (qy b) (qyy b) (qu b) (aL d4 (qyy b)) (qv b) (invN (qv b)) (qq b) (qr b) (bB aT (qr b)) (bD (bB aT (qr b))) h1 rfl rfl rfl rfl rfl rfl rfl hy hyy hu hdv hv hi hq (by rw[h2];rfl) h3 h4 h5 hr
noncomputable def qdec_con:Con Tryz.prog GX:=con1 56 Tryz.f56 Tryz.func56 (by kernel_rfl) (by kernel_rfl) (cB32) (fun b=>flagQ (qP b) (qOk b)) (fun b=>[BOk b]) (fun _=>rfl) (fun b h=>qdec_fn b h)
def genPt:B32:=⟨88,102,102,102,102,102,102,102,102,102,102,102,102,102,102,102,102,102,102,102,102,102,102,102,102,102,102,102,102,102,102,102⟩
theorem qgen_fn:FnOk Tryz.prog GX 57 [] (cB32.enc genPt):=
 FnOk.av (Γ:=([]:Cons Tryz.prog GX)) ah mixed Tryz.func57 (n:=100) (orc:=[]) (cs:=[]) (by kernel_rfl) trivial rfl rfl
noncomputable def qgen_con:Con Tryz.prog GX:=con0 57 Tryz.f57 Tryz.func57 (by kernel_rfl) (by kernel_rfl) (cB32.enc genPt) [] rfl (fun _=>qgen_fn)
end Go.Proofs.YthlmepolmemejaaGreatDoor
namespace Go.Proofs.YthlmepolmemejaaGreatDoor
open Go Go.Eng
set_option linter.unusedVariables false
set_option maxRecDepth 100000
noncomputable def oftQ (n:B32) (p:P16):Nat→P16→P16
 | 0,o=>o
 | k+1,o=>oftQ n p k (match bitB n k with
  | true=>sumQ (sumQ o o) p
  | false=>sumQ o o)
noncomputable def oftenQ (n:B32) (p:P16):P16:=oftQ n p 256 neutralQ
theorem neutralQ_ok:QOk neutralQ:=⟨dw,one4_ok',one4_ok',dw⟩
theorem oftQ_ok {n:B32} {p:P16} (hp:QOk p):∀(k:Nat) (o:P16),QOk o→QOk (oftQ n p k o)
 | 0,o,ho=>ho
 | k+1,o,ho=>by
  unfold oftQ
  have hoo:=sumQ_ok ho ho
  cases bitB n k with
  | true=>exact oftQ_ok hp k _ (sumQ_ok hoo hp)
  | false=>exact oftQ_ok hp k _ hoo
theorem oftenQ_ok {n:B32} {p:P16} (hp:QOk p):QOk (oftenQ n p):=oftQ_ok hp 256 _ neutralQ_ok
namespace qoft
noncomputable abbrev fn:=Tryz.f60
noncomputable def body:Code:=bL fn
noncomputable def A:Code:=cs1 body
noncomputable def B:Code:=cs1 (cs2 body)
noncomputable def C:Code:=cs1 (cs1 (cs2 (cs2 body)))
noncomputable def L:Code:=cL (cB (cs2 (cs1 (cs2 (cs2 body)))))
noncomputable def D:Code:=cs2 (cs2 (cs2 body))
theorem bU:body= .seq A (.seq B (.seq (.seq C (.block 0 (.loop L))) D)):=by kernel_rfl
noncomputable def Γ:Cons Tryz.prog GX:=[qneutral_con,qsum_con]
section
variable (n:B32) (p:P16)
noncomputable def S (k:Nat) (o:P16) (g:Nat→SV):List SV × List Blk:=([cB32.enc n,cQ.enc p,.o (.a (.ptr 0 0)),.o (.a (.ptr 1 0)),.o (.a (.ptr 2 0)),.o (.a (.ptr 3 0)),(cInt .i64).enc ((k:Int)-1),g 7,g 8,g 9,g 10,g 11,g 12,g 13,g 14,g 15,g 16,g 17,g 18,g 19,g 20,g 21,g 22,g 23,g 24,g 25,g 26,g 27,g 28],[⟨true,26,cB32.row n⟩,⟨true,84,cQ.row p⟩,⟨true,84,cQ.row noneQ⟩,⟨true,84,cQ.row o⟩])
noncomputable def st (k:Nat) (o:P16) (g:Nat→SV) (r:Orc):St:=⟨(S n p k o g).1,(S n p k o g).2,r⟩
noncomputable def s0:St:=⟨aB fn [cB32.enc n,cQ.enc p],[],[]⟩
noncomputable def s1:St:=outS Γ tys 100 A (s0 n p)
theorem preA:exec Γ tys 100 A (s0 n p)=some (.normal,⟨(s1 n p).tm,(s1 n p).mem,[]⟩,[]):=by kernel_rfl
noncomputable def s2:St:=outS Γ tys 100 B (s1 n p)
theorem preB:exec Γ tys 100 B ⟨(s1 n p).tm,(s1 n p).mem,[]⟩=some (.normal,⟨(s2 n p).tm,(s2 n p).mem,[]⟩,[]):=by kernel_rfl
theorem preC:exec Γ tys 100 C ⟨(s2 n p).tm,(s2 n p).mem,[]⟩=some (.normal,st n p 256 neutralQ (outT Γ tys 100 C (s2 n p)) [],[]):=by kernel_rfl
theorem tab1 (o o2 o3:P16) (g:Nat→SV):tabL (fun j=>exec Γ tys 100 L (st n p (j+1) o g [(14,[.s (cQ.enc o2)]),(24,[true]),(27,[.s (cQ.enc o3)])])) 256=tabR (fun j=>some (.normal,st n p j o3 (outT Γ tys 100 L (st n p (j+1) o g [(14,[.s (cQ.enc o2)]),(24,[true]),(27,[.s (cQ.enc o3)])])) [(14,[]),(24,[]),(27,[])],[QOk o,QOk o,cQ.enc (sumQ o o)=cQ.enc o2,bitB n j=true,QOk o2,QOk p,cQ.enc (sumQ o2 p)=cQ.enc o3])) 256:=by kernel_rfl
theorem tab0 (o o2:P16) (g:Nat→SV):tabL (fun j=>exec Γ tys 100 L (st n p (j+1) o g [(14,[.s (cQ.enc o2)]),(24,[false])])) 256=tabR (fun j=>some (.normal,st n p j o2 (outT Γ tys 100 L (st n p (j+1) o g [(14,[.s (cQ.enc o2)]),(24,[false])])) [(14,[]),(24,[])],[QOk o,QOk o,cQ.enc (sumQ o o)=cQ.enc o2,bitB n j=false])) 256:=by kernel_rfl
theorem last (o:P16) (g:Nat→SV):exec Γ tys 100 L (st n p 0 o g [])=some (.exit 0,st n p 0 o (outT Γ tys 100 L (st n p 0 o g [])) [],[]):=by kernel_rfl
noncomputable def fin (o:P16) (g:Nat→SV):St:=outS Γ tys 100 D (st n p 0 o g [])
theorem post (o:P16) (g:Nat→SV):exec Γ tys 100 D (st n p 0 o g [])=some (.ret,⟨(fin n p o g).tm,(fin n p o g).mem,[]⟩,[]):=by kernel_rfl
theorem result (o:P16) (g:Nat→SV):eRes tys (fin n p o g).tm (fun k=>(fin n p o g).mem[k]?) fn.results.toList=some [.g (cQ.row o)]:=by kernel_rfl
end
end qoft
theorem qoft_loop (n:B32) (p:P16) (hp:QOk p) (g:Nat→SV) {Post:Ex→List SV→List Blk→Prop} (hP:∀o g',o=oftenQ n p→Post .normal (qoft.S n p 0 o g').1 (qoft.S n p 0 o g').2):
  Runs Tryz.prog GX (.block 0 (.loop qoft.L)) (qoft.S n p 256 neutralQ g).1 (qoft.S n p 256 neutralQ g).2 Post:=by
 refine Runs.block ?_
 refine Runs.loop (fun(t:Nat × P16 × (Nat→SV))=>qoft.S n p t.1 t.2.1 t.2.2) (fun t=>t.1≤256∧QOk t.2.1∧oftQ n p t.1 t.2.1=oftenQ n p) (fun t=>t.1) ?_ (256,neutralQ,g) ⟨Nat.le_refl _,neutralQ_ok,by rw[oftenQ]⟩
 rintro⟨k,o,g⟩ ⟨hk,ho,hr⟩
 simp only at hk ho hr
 cases k with
 | zero=>
  rw[oftQ] at hr
  exact Runs.aG ah mixed (qoft.last n p o g) trivial (hP _ _ hr)
 | succ k=>
  have hoo:=sumQ_ok ho ho
  rw[oftQ] at hr
  cases hb:bitB n k with
  | true=>
   rw[hb] at hr
   exact Runs.aG ah mixed (tab_get (qoft.tab1 n p o (sumQ o o) (sumQ (sumQ o o) p) g) k (by omega)) ⟨ho,ho,rfl,hb,hoo,hp,rfl,trivial⟩
    ⟨(k,sumQ (sumQ o o) p,outT qoft.Γ tys 100 qoft.L (qoft.st n p (k+1) o g [(14,[.s (cQ.enc (sumQ o o))]),(24,[true]),(27,[.s (cQ.enc (sumQ (sumQ o o) p))])])),pair_eta' _,⟨by simp only;omega,sumQ_ok hoo hp,hr⟩,Nat.lt_succ_self _⟩
  | false=>
   rw[hb] at hr
   exact Runs.aG ah mixed (tab_get (qoft.tab0 n p o (sumQ o o) g) k (by omega)) ⟨ho,ho,rfl,hb,trivial⟩
    ⟨(k,sumQ o o,outT qoft.Γ tys 100 qoft.L (qoft.st n p (k+1) o g [(14,[.s (cQ.enc (sumQ o o))]),(24,[false])])),pair_eta' _,⟨by simp only;omega,hoo,hr⟩,Nat.lt_succ_self _⟩
theorem qoft_last (n:B32) (p o:P16) (g:Nat→SV):Runs Tryz.prog GX qoft.D (qoft.S n p 0 o g).1 (qoft.S n p 0 o g).2 (Go.Eng.Ends tys qoft.fn (cQ.enc o)):=
 Runs.aG ah mixed (qoft.post n p o g) trivial (Ends.ret (qoft.result n p o g) rfl)
theorem qoft_fn (n:B32) (p:P16) (hh:Holds [QOk p]):FnOk Tryz.prog GX 60 [cB32.enc n,cQ.enc p] (cQ.enc (oftenQ n p)):=by
 refine FnOk.of_runs ah Tryz.func60 (c:=qoft.body) (by kernel_rfl) ?_ rfl rfl
 rw[qoft.bU]
 refine Runs.seq (Runs.aG ah mixed (qoft.preA n p) trivial ?_)
 refine Runs.seq (Runs.aG ah mixed (qoft.preB n p) trivial ?_)
 refine Runs.seq (Runs.seq (Runs.aG ah mixed (qoft.preC n p) trivial ?_))
 refine qoft_loop n p hh.1 _ fun o g' hr=> ?_
 have he:=qoft_last n p o g'
 rw[hr] at he ⊢
 exact he
noncomputable def qoft_con:Con Tryz.prog GX:=con2 60 Tryz.f60 Tryz.func60 (by kernel_rfl) (by kernel_rfl) (cB32) (cQ) (fun n p=>cQ.enc (oftenQ n p)) (fun n p=>[QOk p]) (fun _ _=>rfl) (fun n p h=>qoft_fn n p h)
theorem genPt_ok:BOk genPt:=by
 intro i
 unfold B32.at genPt
 split<;>exact⟨by decide,by decide⟩
noncomputable def qbaseB (n:B32):B32:=encQ (oftenQ n (qP genPt))
theorem qbase_walk (n:B32) (q o:P16) (f:Bool) (h0:BOk genPt) (h1:flagQ (qP genPt) (qOk genPt)=flagQ q f) (h2:QOk q) (h3:cQ.enc (oftenQ n q)=cQ.enc o) (h4:QOk o):FnOk Tryz.prog GX 35 [cB32.enc n] (cB32.enc (encQ o)):=
 FnOk.av (Γ:=[qgen_con,qdec_con,qoft_con,qenc_con]) ah mixed Tryz.func35 (n:=100) (orc:=[(7,[.s (flagQ q f)]),(12,[.s (cQ.enc o)])]) (cs:=[BOk genPt,flagQ (qP genPt) (qOk genPt)=flagQ q f,QOk q,cQ.enc (oftenQ n q)=cQ.enc o,QOk o]) (by kernel_rfl) ⟨h0,h1,h2,h3,h4,trivial⟩ rfl rfl
theorem qbase_fn (n:B32):FnOk Tryz.prog GX 35 [cB32.enc n] (cB32.enc (qbaseB n)):=
 qbase_walk n _ _ _ genPt_ok rfl (qP_ok genPt_ok) rfl (oftenQ_ok (qP_ok genPt_ok))
noncomputable def qbase_con:Con Tryz.prog GX:=con1 35 Tryz.f35 Tryz.func35 (by kernel_rfl) (by kernel_rfl) (cB32) (fun n=>cB32.enc (qbaseB n)) (fun _=>[]) (fun _=>rfl) (fun n _=>qbase_fn n)
end Go.Proofs.YthlmepolmemejaaGreatDoor

/- Lists of certificates and keys as rows of values; keyring.At and beaconref14.At: walks. -/
import Derived.Test.YthlmepolmemejaaGreatDoorLFo
import Derived.Test.YthlmepolmemejaaGreatDoorLKeyO
set_option linter.unusedSimpArgs false
set_option linter.unusedVariables false
namespace Go.Proofs.YthlmepolmemejaaGreatDoor
open Go Go.Eng Go.RowKit
set_option maxRecDepth 100000
section
variable {α:Type} {f:α→List Value} {s:Nat}
theorem fG (hf:∀x,(f x).length=s):∀l:List α,(l.flatMap f).length=l.length*s
 | []=>by simp
 | x::r=>by rw[List.flatMap_cons,List.length_append,hf,fG hf r,List.length_cons,Nat.add_mul,Nat.one_mul,Nat.add_comm]
theorem Ae (hf:∀x,(f x).length=s):∀(l:List α) (i:Nat),(l.flatMap f).drop (i*s)=(l.drop i).flatMap f
 | l,0=>by simp
 | [],i+1=>by simp
 | x::r,i+1=>by rw[List.flatMap_cons,Nat.add_mul,Nat.one_mul,Nat.add_comm,List.drop_append,hf,List.drop_eq_nil_of_le (by rw[hf];omega),Nat.add_sub_cancel_left,List.nil_append,Ae hf r i];rfl
theorem takeV_eq (vs:List Value):∀(n o:Nat),o+n≤vs.length→bR vs o n=((vs.drop o).take n).map Atom.v
 | 0,_,_=>by simp[bR]
 | n+1,o,h=>by
  have ho:o<vs.length:=by omega
  rw[bR,takeV_eq vs n (o+1) (by omega),List.drop_eq_getElem_cons ho,List.take_succ_cons,List.map_cons]
  congr 2
  simp[List.getD,List.getElem?_eq_getElem (show o<vs.length by omega)]
theorem sw (hf:∀x,(f x).length=s) (l:List α) (d:α) {i:Nat} (o n:Nat) (hi:i<l.length) (ho:o+n≤s):bR (l.flatMap f) (i*s+o) n=(((f (l.getD i d)).drop o).take n).map Atom.v:=by
 have hl:=fG hf l
 have h1:(i+1)*s≤l.length*s:=Nat.mul_le_mul_right _ hi
 rw[Nat.add_mul,Nat.one_mul] at h1
 rw[takeV_eq _ _ _ (by omega),←List.drop_drop,Ae hf,List.drop_eq_getElem_cons hi,List.flatMap_cons]
 have e:l.getD i d=l[i]:=by simp[List.getD,List.getElem?_eq_getElem hi]
 rw[e,List.drop_append_of_le_length (by rw[hf];omega),List.take_append_of_le_length (by rw[List.length_drop,hf];omega)]
theorem wW (hf:∀x,(f x).length=s) (l:List α) (d:α) {i:Nat} (o:Nat) (hi:i<l.length) (ho:o<s):(l.flatMap f).getD (i*s+o) undef=(f (l.getD i d)).getD o undef:=by
 have h:=sw hf l d o 1 hi (by omega)
 simp only[bR] at h
 have h2:=takeV_eq (f (l.getD i d)) 1 o (by rw[hf];omega)
 rw[←h2] at h
 simp only[bR,List.cons.injEq,and_true,Atom.v.injEq] at h
 exact h
end
def Keys.vals (k:Keys):List Value:= .int .u64 k.gen::(k.sg.to++k.vr.to).map (Value.int .u8)
def Cert.vals (c:Cert):List Value:=c.k.vals++(.int .u64 c.ep::c.sig.to.map (Value.int .u8))
theorem Keys.fE (k:Keys):k.vals.length=65:=rfl
theorem Cert.fE (c:Cert):c.vals.length=130:=rfl
abbrev aA (l:List Cert):List Value:=l.flatMap Cert.vals
abbrev dL (l:List Keys):List Value:=l.flatMap Keys.vals
def zk:Keys:=⟨0,⟨0,0,0,0,0,0,0,0,0,0,0,0,0,0,0,0,0,0,0,0,0,0,0,0,0,0,0,0,0,0,0,0⟩,⟨0,0,0,0,0,0,0,0,0,0,0,0,0,0,0,0,0,0,0,0,0,0,0,0,0,0,0,0,0,0,0,0⟩⟩
def zc:Cert:=⟨zk,0,⟨0,0,0,0,0,0,0,0,0,0,0,0,0,0,0,0,0,0,0,0,0,0,0,0,0,0,0,0,0,0,0,0,0,0,0,0,0,0,0,0,0,0,0,0,0,0,0,0,0,0,0,0,0,0,0,0,0,0,0,0,0,0,0,0⟩⟩
theorem ld_cert (l:List Cert) {i:Nat} (hi:i<l.length):SV.o (.g (bR (aA l) (i*130) 130))=bK.enc (l.getD i zc):=by
 have h:=sw Cert.fE l zc 0 130 hi (by omega)
 rw[Nat.add_zero] at h
 rw[h,List.drop_zero,List.take_of_length_le (by rw[Cert.fE];omega)]
 rfl
theorem ld_ep (l:List Cert) {i:Nat} (hi:i<l.length):SV.o (.a (.v ((aA l).getD (i*130+65) undef)))= .o (.a (aB .u64 (l.getD i zc).ep)):=by
 rw[wW Cert.fE l zc 65 hi (by omega)]
 rfl
theorem ld_ckeys (l:List Cert) {i:Nat} (hi:i<l.length):SV.o (.g (bR (aA l) (i*130) 65))=aO.enc (l.getD i zc).k:=by
 have h:=sw Cert.fE l zc 0 65 hi (by omega)
 rw[Nat.add_zero] at h
 rw[h,List.drop_zero]
 rfl
theorem ld_keys (l:List Keys) {i:Nat} (hi:i<l.length):SV.o (.g (bR (dL l) (i*65) 65))=aO.enc (l.getD i zk):=by
 have h:=sw Keys.fE l zk 0 65 hi (by omega)
 rw[Nat.add_zero] at h
 rw[h,List.drop_zero,List.take_of_length_le (by rw[Keys.fE];omega)]
 rfl
def atN (l:List Cert) (ep:Int) (k:Keys):Nat→Keys
 | 0=>k
 | n+1=>bif decide ((l.getD n zc).ep≤ep) then (l.getD n zc).k else atN l ep k n
namespace kat
noncomputable abbrev fn:=Tryz.f10
noncomputable def body:Code:=bZ fn
noncomputable def L:Code:=cL (cB (cs2 (cs1 (bY 1 body))))
noncomputable def A1:Code:=cs1 (cs1 (bY 1 body))
noncomputable def D:Code:=cs2 (bY 1 body)
theorem fV:bY 1 body= .seq (.seq A1 (.block 0 (.loop L))) D:=by kernel_rfl
noncomputable def Γ {G:Glob}:Cons Tryz.prog G:=[]
def M0 (n c:Nat) (ep:Int):List (Option SV):=aJ 28 0 [(1,.o (.a (.sld 0 0 0 n c))),(2,.o (.a (aB .u64 ep))),(3,.o (.a (.ptr 1 0))),(6,.o (.a (.ptr 2 0)))]
def M1 (n c:Nat) (ep:Int) (j:Int):List (Option SV):=aJ 28 0 [(1,.o (.a (.sld 0 0 0 n c))),(2,.o (.a (aB .u64 ep))),(3,.o (.a (.ptr 1 0))),(6,.o (.a (.ptr 2 0))),(7,.o (.a (.v (.int .i64 j))))]
def MZ:List (Option SV):=aJ 28 0 [(6,.o (.a (.ptr 2 0)))]
def mem (l:List Cert) (ty:TypeId) (k:Keys) (r:Keys):List Blk:=[⟨false,ty,.prv (aA l)⟩,⟨true,28,.lit k.row⟩,⟨true,28,.lit r.row⟩]
theorem jy (l:List Cert) (n c:Nat) (ty:TypeId) (k:Keys) (ep:Int):oI (M0 n c ep) (mem l ty k zk):=by delta oI;kernel_rfl
theorem eT (l:List Cert) (n c:Nat) (ty:TypeId) (k:Keys) (ep:Int) (j:Int):oI (M1 n c ep j) (mem l ty k zk):=by delta oI;kernel_rfl
theorem idsZ (l:List Cert) (ty:TypeId) (k:Keys) (r:Keys):oI (MZ) (mem l ty k r):=by delta oI;kernel_rfl
section
variable {G:Glob} (l:List Cert) (n c:Nat) (ty:TypeId) (k:Keys) (ep:Int)
theorem s0:oX (Γ (G:=G)) 100 (dU 1 body) (aH fn [aO.enc k,.o (.a (.sld 0 0 0 n c)),.o (.a (aB .u64 ep))]) [⟨false,ty,.prv (aA l)⟩] [] .normal (M0 n c ep) (mem l ty k zk) []:=by delta oX;kernel_rfl
theorem a1 (j:Int) (g:Nat→SV):oX (Γ (G:=G)) 100 A1 (fill g 0 (M0 n c ep )) (mem l ty k zk) [(10,[.n j])] .normal (M1 n c ep j) (mem l ty k zk) [IntKind.i64.wrap ((n:Int)-1)=j]:=by delta oX;kernel_rfl
theorem stp (j j' e:Int) (g:Nat→SV):oX (Γ (G:=G)) 100 L (fill g 0 (M1 n c ep j)) (mem l ty k zk) [(12,[.b true]),(19,[.ds (.o (.a (aB .u64 e)))]),(21,[.b false]),(14,[.n j'])] .normal (M1 n c ep j') (mem l ty k zk) [decide (j≥0)=true,0≤j,j<n,(0+aP 0 j 130+65)<(aA l).length,SV.o (.a (.v ((aA l).getD (0+aP 0 j 130+65) undef)))= .o (.a (aB .u64 e)),decide (e≤ep)=false,IntKind.i64.wrap (j-1)=j']:=by delta oX;kernel_rfl
theorem out (j:Int) (g:Nat→SV):oX (Γ (G:=G)) 100 L (fill g 0 (M1 n c ep j)) (mem l ty k zk) [(12,[.b false])] (.exit 0) (M0 n c ep) (mem l ty k zk) [decide (j≥0)=false]:=by delta oX;kernel_rfl
theorem hit (j e:Int) (r:Keys) (g:Nat→SV):oX (Γ (G:=G)) 100 L (fill g 0 (M1 n c ep j)) (mem l ty k zk) [(12,[.b true]),(19,[.ds (.o (.a (aB .u64 e)))]),(21,[.b true]),(26,[.ds (aO.enc r)])] .ret (MZ) (mem l ty k r) [decide (j≥0)=true,0≤j,j<n,(0+aP 0 j 130+65)<(aA l).length,SV.o (.a (.v ((aA l).getD (0+aP 0 j 130+65) undef)))= .o (.a (aB .u64 e)),decide (e≤ep)=true,0≤j,j<n,(0+aP 0 j 130)+65≤(aA l).length,SV.o (.g (bR (aA l) (0+aP 0 j 130) 65))=aO.enc r]:=by delta oX;kernel_rfl
theorem fin (g:Nat→SV):oX (Γ (G:=G)) 100 D (fill g 0 (M0 n c ep )) (mem l ty k zk) [] .ret (MZ) (mem l ty k k) []:=by delta oX;kernel_rfl
end
theorem zr (l:List Cert) (ty:TypeId) (k:Keys) (r:Keys) (g:Nat→SV):eRes tys (fill g 0 (MZ )) (fun q=>(mem l ty k r)[q]?) fn.results.toList=some [.g r.row]:=by kernel_rfl
theorem off_eq (i o:Nat):0+aP 0 (i:Int) 130+o=i*130+o:=by
 rw[lN]
 simp
theorem run {G:Glob} (l:List Cert) (n c:Nat) (ty:TypeId) (k:Keys) (ep:Int) (hn:l.length=n) (hm:n<9223372036854775807):aK Tryz.prog G 1 body (aH fn [aO.enc k,.o (.a (.sld 0 0 0 n c)),.o (.a (aB .u64 ep))]) [⟨false,ty,.prv (aA l)⟩] (aN tys fn (bA (aO.enc (atN l ep k n)) .none)):=by
 have hl:(aA l).length=n*130:=by rw[←hn];exact fG Cert.fE l
 refine Runs.bS ah mixed 1 (s0 l n c ty k ep) trivial (jy l n c ty k ep) rfl fun g=> ?_
 rw[fV]
 refine Runs.seq (Runs.seq (Runs.au ah mixed (a1 l n c ty k ep ((n:Int)-1) g) ⟨by rw[IntKind.wrap_i64];omega,trivial⟩ (eT l n c ty k ep _) rfl fun g=> ?_))
 refine Runs.block ?_
 refine Runs.dS (fun(i:Nat)=>M1 n c ep ((i:Int)-1)) (fun _=>mem l ty k zk) (fun i=>i≤n∧atN l ep k n=atN l ep k i) (fun i=>i) ?_ n ⟨Nat.le_refl _,rfl⟩ g
 rintro i g ⟨hi,hv⟩
 cases i with
 | zero=>
  refine Runs.au ah mixed (out l n c ty k ep _ g) ⟨decide_eq_false (by omega),trivial⟩ (jy l n c ty k ep) rfl fun g=> ?_
  show aK _ _ _ _ _ _ _
  rw[hv]
  exact Runs.au ah mixed (fin l n c ty k ep g) trivial (idsZ l ty k _) rfl fun g=>aN.ret (zr l ty k k g) rfl
 | succ i=>
  have e0:((i+1:Nat):Int)-1=(i:Int):=by omega
  rw[e0]
  have q:i<l.length:=by omega
  have hb:i*130+130≤n*130:=by have:=Nat.mul_le_mul_right 130 (show i+1≤n by omega);omega
  have o65:=off_eq i 65
  have o0:=off_eq i 0
  rw[Nat.add_zero,Nat.add_zero] at o0
  have h1:(0+aP 0 (i:Int) 130+65)<(aA l).length:=by rw[o65,hl];omega
  have h2:SV.o (.a (.v ((aA l).getD (0+aP 0 (i:Int) 130+65) undef)))= .o (.a (aB .u64 (l.getD i zc).ep)):=by rw[o65];exact ld_ep l q
  cases hd:decide ((l.getD i zc).ep≤ep) with
  | false=>
   refine Runs.au ah mixed (stp l n c ty k ep i ((i:Int)-1) (l.getD i zc).ep g) ⟨decide_eq_true (by omega),by omega,by omega,h1,h2,hd,by rw[IntKind.wrap_i64];omega,trivial⟩ (eT l n c ty k ep _) rfl fun g=> ?_
   exact⟨i,g,rfl,rfl,⟨by omega,by rw[hv,atN,hd,cond_false]⟩,by omega⟩
  | true=>
   rw[hv,atN,hd,cond_true]
   refine Runs.au ah mixed (hit l n c ty k ep i (l.getD i zc).ep (l.getD i zc).k g) ⟨decide_eq_true (by omega),by omega,by omega,h1,h2,hd,by omega,by omega,by rw[o0,hl];omega,by rw[o0];exact ld_ckeys l q,trivial⟩ (idsZ l ty k _) rfl fun g=> ?_
   exact aN.ret (zr l ty k _ g) rfl
end kat
end Go.Proofs.YthlmepolmemejaaGreatDoor

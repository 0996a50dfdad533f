/- Package beaconref01: its table, rotations, and padded: walked, with contracts. -/
import Derived.Test.YtdccehmekkcheaaDoorBFo
import Derived.Test.YtdccehmekkcheaaDoorBMX
import Derived.Laws.MathBits
namespace Go.Proofs.YtdccehmekkcheaaDoor.S3
open Go Go.Eng Go.RowKit
set_option linter.unusedVariables false
set_option maxRecDepth 100000
def padZ (n bk ln:Nat):Nat:=(bk-(n+1+ln)%bk)%bk
def lenE (bt:Int) (i:Nat):Int:=cond (Nat.ble 8 i) 0 (aV bt (8*i))
def lenB (bt:Int):Nat→List Int
 | 0=>[]
 | i+1=>lenE bt i::lenB bt i
def lenV (n:Nat):Int:=IntKind.u64.wrap (IntKind.u64.wrap (n:Int)*8)
def padR (ys:List Int) (bk ln:Nat):List Int:=ys++([128]++(List.replicate (padZ ys.length bk ln) 0++lenB (lenV ys.length) ln))
theorem lenB_length (bt:Int):∀i,(lenB bt i).length=i
 | 0=>rfl
 | i+1=>by rw[lenB,List.length_cons,lenB_length]
theorem padZ_64 (n:Nat):padZ n 64 8<64∧(n+1+padZ n 64 8+8)%64=0∧∀j,j<padZ n 64 8→(n+1+j+8)%64≠0:=by
 unfold padZ
 refine⟨by omega,by omega,fun j hj=>by omega⟩
section
variable {Post:Ex→List SV→List Blk→Prop}
end
end Go.Proofs.YtdccehmekkcheaaDoor.S3
namespace Go.Proofs.YtdccehmekkcheaaDoor.S3
open Go Go.Eng Go.RowKit
set_option linter.unusedVariables false
set_option maxRecDepth 100000
def row8 (h:Nat→Int):List Atom:=u32 (h 0)::u32 (h 1)::u32 (h 2)::u32 (h 3)::u32 (h 4)::u32 (h 5)::u32 (h 6)::u32 (h 7)::[]
def outR (h:Nat→Int):B32:=⟨IntKind.u8.wrap ((h 0).fdiv (2^24)),IntKind.u8.wrap ((h 0).fdiv (2^16)),IntKind.u8.wrap ((h 0).fdiv (2^8)),IntKind.u8.wrap ((h 0).fdiv (2^0)),IntKind.u8.wrap ((h 1).fdiv (2^24)),IntKind.u8.wrap ((h 1).fdiv (2^16)),IntKind.u8.wrap ((h 1).fdiv (2^8)),IntKind.u8.wrap ((h 1).fdiv (2^0)),IntKind.u8.wrap ((h 2).fdiv (2^24)),IntKind.u8.wrap ((h 2).fdiv (2^16)),IntKind.u8.wrap ((h 2).fdiv (2^8)),IntKind.u8.wrap ((h 2).fdiv (2^0)),IntKind.u8.wrap ((h 3).fdiv (2^24)),IntKind.u8.wrap ((h 3).fdiv (2^16)),IntKind.u8.wrap ((h 3).fdiv (2^8)),IntKind.u8.wrap ((h 3).fdiv (2^0)),IntKind.u8.wrap ((h 4).fdiv (2^24)),IntKind.u8.wrap ((h 4).fdiv (2^16)),IntKind.u8.wrap ((h 4).fdiv (2^8)),IntKind.u8.wrap ((h 4).fdiv (2^0)),IntKind.u8.wrap ((h 5).fdiv (2^24)),IntKind.u8.wrap ((h 5).fdiv (2^16)),IntKind.u8.wrap ((h 5).fdiv (2^8)),IntKind.u8.wrap ((h 5).fdiv (2^0)),IntKind.u8.wrap ((h 6).fdiv (2^24)),IntKind.u8.wrap ((h 6).fdiv (2^16)),IntKind.u8.wrap ((h 6).fdiv (2^8)),IntKind.u8.wrap ((h 6).fdiv (2^0)),IntKind.u8.wrap ((h 7).fdiv (2^24)),IntKind.u8.wrap ((h 7).fdiv (2^16)),IntKind.u8.wrap ((h 7).fdiv (2^8)),IntKind.u8.wrap ((h 7).fdiv (2^0))⟩
namespace r256
def h0 (j:Nat):Int:=h0L.at j
end r256
end Go.Proofs.YtdccehmekkcheaaDoor.S3
namespace Go.Proofs.YtdccehmekkcheaaDoor.S3
open Go Go.Eng Go.RowKit
set_option linter.unusedVariables false
set_option maxRecDepth 100000
theorem u32_wrap (x:Int):IntKind.u32.wrap x=x%4294967296:=by rw[IntKind.wrap_u32]
def Byt (x:Int):Prop:=0≤x∧x<256
def refH (xs:List Int):Nat→Nat→Int
 | 0=>r256.h0
 | i+1=>compF (refH xs i) (schW fun j=>xs.getD (64*i+j) 0)
def refB (ys:List Int):B32:=outR (refH (padR ys 64 8) ((padR ys 64 8).length/64))
theorem padR_length (ys:List Int) (bk ln:Nat):(padR ys bk ln).length=ys.length+1+padZ ys.length bk ln+ln:=by
 unfold padR
 simp only[List.length_append,List.length_singleton,List.length_replicate,lenB_length]
 omega
section
variable {Post:Ex→List SV→List Blk→Prop}
end
end Go.Proofs.YtdccehmekkcheaaDoor.S3
namespace Go.Proofs.YtdccehmekkcheaaDoor.S3
open Go Go.Eng Go.RowKit
set_option linter.unusedVariables false
set_option maxRecDepth 100000
theorem schW_congr {R R':Nat→Int} (h:∀j,j<64→R j=R' j):∀t,t<64→schW R t=schW R' t:=by
 have hS:Sched R' (schW R):=by
  refine⟨fun t ht=> ?_,(schW_sched R).2⟩
  rw[←h _ (by omega),←h _ (by omega),←h _ (by omega),←h _ (by omega)]
  exact(schW_sched R).1 t ht
 exact sched_unique hS (schW_sched R')
theorem rounds_congr_h {h h' W:Nat→Int} (e:∀j,j<8→h j=h' j):∀t,∀j,j<8→rounds h W t j=rounds h' W t j
 | 0,j,hj=>e j hj
 | t+1,j,hj=>roundF_congr (rounds_congr_h e t) _ _ j hj
theorem compF_congr {h h' R R':Nat→Int} (e:∀j,j<8→h j=h' j) (f:∀j,j<64→R j=R' j):∀j,j<8→compF h (schW R) j=compF h' (schW R') j:=fun j hj=>by
 unfold compF
 rw[e j hj,rounds_congr 64 (schW_congr f),rounds_congr_h e 64 j hj]
theorem absorb_block (S:Hs) (zs:List Int) (h0:0≤S.n) (hn:S.n%64=0) (hz:zs.length=64):∀j,j<8→(bC S zs).h.at j=compF S.h.at (schW fun j=>zs.getD j 0) j:=fun j hj=>by
 rw[absorb_chunk zs S 0 h0 (by omega) (by omega) (by omega),if_pos (by omega)]
 show(E8.mk' (compF S.h.at (schW (B64.mk' (putF 0 zs S.r.at)).at))).at j=_
 rw[E8.at_mk _ j hj]
 refine compF_congr (fun _ _=>rfl) (fun i hi=> ?_) j hj
 rw[B64.at_mk _ i hi,putF_if,if_pos ⟨by omega,by omega⟩]
 rfl
theorem refH_absorb (xs:List Int) (nb:Nat) (hl:xs.length=64*nb) (hs:nb≤2199023255600):∀i,i≤nb→∀j,j<8→(bC S0 (xs.take (64*i))).h.at j=refH xs i j
 | 0,_,j,hj=>by
  rw[Nat.mul_zero,List.take_zero]
  rfl
 | i+1,hi,j,hj=>by
  have e:xs.take (64*(i+1))=xs.take (64*i)++(xs.drop (64*i)).take 64:=by
   rw[show 64*(i+1)=64*i+64 by omega,List.take_add]
  have hlen:((xs.drop (64*i)).take 64).length=64:=by rw[List.length_take,List.length_drop];omega
  have hn:(bC S0 (xs.take (64*i))).n=64*(i:Int):=by
   rw[absorb_n _ _ (by decide) (by decide),List.length_take,bG]
   show(0+((min (64*i) xs.length:Nat):Int))%18446744073709551616=_
   omega
  rw[e,absorb_append,absorb_block _ _ (by rw[hn];omega) (by rw[hn];omega) hlen j hj,refH]
  refine compF_congr (fun j hj=>refH_absorb xs nb hl hs i (by omega) j hj) (fun j hj=> ?_) j hj
  simp only[List.getD,List.getElem?_take_of_lt hj,List.getElem?_drop]
theorem padV_eq (ys:List Int) (hs:ys.length≤140737488354000):padV (ys.length:Int) (padL (ys.length:Int))=[128]++(List.replicate (padZ ys.length 64 8) 0++lenB (lenV ys.length) 8):=by
 have hL:padL (ys.length:Int)=padZ ys.length 64 8+1:=by
  unfold padL padZ
  have h1:(ys.length:Int).tmod 64=(ys.length:Int)%64:=Int.tmod_eq_emod_of_nonneg (by omega)
  rw[h1,bG,bG,Int.tmod_eq_emod_of_nonneg (by omega)]
  omega
 obtain⟨z1,_,_⟩:=padZ_64 ys.length
 rw[hL]
 unfold padV
 have h8:(app.sh8.map (aV (IntKind.u64.wrap ((ys.length:Int)*8))))=lenB (lenV ys.length) 8:=by
  unfold lenV
  rw[bG (ys.length:Int),Int.emod_eq_of_lt (by omega) (by omega)]
  kernel_rfl
 rw[h8,List.drop_zero,putI_spec _ _ _ (by rw[bO,List.length_replicate,lenB_length];omega),putI_spec 0 [128] _ (by rw[List.length_replicate];decide),lenB_length]
 have e1:(List.replicate 72 (0:Int)).take 0++([128]++(List.replicate 72 0).drop (0+[(128:Int)].length))=[128]++List.replicate 71 0:=rfl
 rw[e1,Nat.zero_add,←List.append_assoc,List.take_left' (by simp only[List.length_append,List.length_take,List.length_singleton,List.length_replicate,lenB_length];omega)]
 rw[←List.append_assoc]
 congr 1
 rw[show padZ ys.length 64 8+1=[(128:Int)].length+padZ ys.length 64 8 by simp only[List.length_singleton];omega,List.take_length_add_append,List.take_replicate]
 congr 2
 omega
theorem byteAt_u64 {x:Int} (h0:0≤x) (h1:x<4294967296) (s:Nat):aV (IntKind.u64.wrap x) s=IntKind.u8.wrap (x.fdiv (2^s)):=by
 unfold aV
 rw[bG,Int.emod_eq_of_lt h0 (by omega)]
theorem sumB_outR {e:E8} {f:Nat→Int} (h:∀j,j<8→e.at j=f j) (hr:∀j,j<8→0≤f j∧f j<4294967296):sumB e=outR f:=by
 have e0:e.b0=f 0:=h 0 (by omega)
 have e1:e.b1=f 1:=h 1 (by omega)
 have e2:e.b2=f 2:=h 2 (by omega)
 have e3:e.b3=f 3:=h 3 (by omega)
 have e4:e.b4=f 4:=h 4 (by omega)
 have e5:e.b5=f 5:=h 5 (by omega)
 have e6:e.b6=f 6:=h 6 (by omega)
 have e7:e.b7=f 7:=h 7 (by omega)
 have q:=fun j hj s=>byteAt_u64 (hr j hj).1 (hr j hj).2 s
 unfold sumB outR
 rw[e0,e1,e2,e3,e4,e5,e6,e7]
 simp only[q 0 (by omega),q 1 (by omega),q 2 (by omega),q 3 (by omega),q 4 (by omega),q 5 (by omega),q 6 (by omega),q 7 (by omega)]
theorem ref_eq (ys:List Int) (hs:ys.length≤140737488354000):finB (bC S0 ys)=refB ys:=by
 have hn:(bC S0 ys).n=(ys.length:Int):=by
  rw[absorb_n _ _ (by decide) (by decide),bG]
  show(0+(ys.length:Int))%18446744073709551616=_
  omega
 unfold finB refB
 rw[hn,←absorb_append,padV_eq ys hs]
 have e:ys++([128]++(List.replicate (padZ ys.length 64 8) 0++lenB (lenV ys.length) 8))=padR ys 64 8:=rfl
 rw[e]
 have hl:=padR_length ys 64 8
 obtain⟨z1,z2,z3⟩:=padZ_64 ys.length
 have hnb:(padR ys 64 8).length=64*((padR ys 64 8).length/64):=by omega
 have ht:(padR ys 64 8).take (64*((padR ys 64 8).length/64))=padR ys 64 8:=List.take_of_length_le (by omega)
 have h:=refH_absorb (padR ys 64 8) _ hnb (by omega) _ (Nat.le_refl _)
 rw[ht] at h
 refine sumB_outR h fun j hj=> ?_
 obtain⟨m,hm⟩:∃m,(padR ys 64 8).length/64=m+1:=⟨(padR ys 64 8).length/64-1,by omega⟩
 rw[hm,refH]
 unfold compF addW
 rw[u32_wrap]
 omega
end Go.Proofs.YtdccehmekkcheaaDoor.S3

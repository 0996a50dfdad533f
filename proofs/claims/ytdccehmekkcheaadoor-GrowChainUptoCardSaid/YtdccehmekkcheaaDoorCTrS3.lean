/- SHA-256 of given bytes: worked out by the kernel, word by word. Plain arithmetic. -/
import Derived.Test.YtdccehmekkcheaaDoorCMY
set_option linter.unusedVariables false
namespace Go.Proofs.YtdccehmekkcheaaDoor.S3
open Go Go.Eng
set_option maxRecDepth 100000
def fI {α:Type} (x:Int) (k:Int→α):α:=match x with
 | .ofNat 0=>k 0
 | .ofNat (n+1)=>k (Int.ofNat (n+1))
 | .negSucc n=>k (Int.negSucc n)
theorem fI_eq {α:Type} (x:Int) (k:Int→α):fI x k=k x:=by
 cases x with
 | ofNat n=>cases n<;>rfl
 | negSucc n=>rfl
def sameE (f:Nat→Int) (s:E8):Bool:=f 0==s.b0&&(f 1==s.b1&&(f 2==s.b2&&(f 3==s.b3&&(f 4==s.b4&&(f 5==s.b5&&(f 6==s.b6&&f 7==s.b7))))))
theorem sameE_spec {f:Nat→Int} {s:E8} (h:sameE f s=true):∀i,i<8→f i=s.at i:=by
 unfold sameE at h
 simp only[Bool.and_eq_true,beq_iff_eq] at h
 obtain⟨h0,h1,h2,h3,h4,h5,h6,h7⟩:=h
 intro i hi
 match i,hi with
 | 0,_=>exact h0
 | 1,_=>exact h1
 | 2,_=>exact h2
 | 3,_=>exact h3
 | 4,_=>exact h4
 | 5,_=>exact h5
 | 6,_=>exact h6
 | 7,_=>exact h7
def runS (H R:E8):Nat→Nat→Int→Int→Int→Int→Int→Int→Int→Int→Int→Int→Int→Int→Int→Int→Int→Int→Int→Int→Int→Int→Int→Int→Int→Int→Bool
 | 0,t,a,b,c,d,e,f,g,q,w0,w1,w2,w3,w4,w5,w6,w7,w8,w9,w10,w11,w12,w13,w14,w15=>sameE (fun i=>kJ (H.at i) ((⟨a,b,c,d,e,f,g,q⟩:E8).at i)) R
 | k+1,t,a,b,c,d,e,f,g,q,w0,w1,w2,w3,w4,w5,w6,w7,w8,w9,w10,w11,w12,w13,w14,w15=>fI (qd (⟨a,b,c,d,e,f,g,q⟩:E8).at (jI.getD t 0) w0 0) fun a'=>fI (qd (⟨a,b,c,d,e,f,g,q⟩:E8).at (jI.getD t 0) w0 4) fun e'=>fI (qc w14 w1 w9 w0) fun x=>runS H R k (t+1) a' a b c e' e f g w1 w2 w3 w4 w5 w6 w7 w8 w9 w10 w11 w12 w13 w14 w15 x
theorem runS_ok {H R:E8} {Q W:Nat→Int} (hS:Sched Q W):∀(k t:Nat) (a b c d e f g q w0 w1 w2 w3 w4 w5 w6 w7 w8 w9 w10 w11 w12 w13 w14 w15:Int),t+k=64→(∀i,i<8→rounds H.at W t i=(⟨a,b,c,d,e,f,g,q⟩:E8).at i)→(∀j,j<16→t+j<64→W (t+j)=([w0,w1,w2,w3,w4,w5,w6,w7,w8,w9,w10,w11,w12,w13,w14,w15]:List Int).getD j 0)→
  runS H R k t a b c d e f g q w0 w1 w2 w3 w4 w5 w6 w7 w8 w9 w10 w11 w12 w13 w14 w15=true→∀i,i<8→lS H.at W i=R.at i
 | 0,t,a,b,c,d,e,f,g,q,w0,w1,w2,w3,w4,w5,w6,w7,w8,w9,w10,w11,w12,w13,w14,w15,ht,hr,hw,h,i,hi=>by
  unfold runS at h
  have e:=sameE_spec h i hi
  rw[←e,←hr i hi,show t=64 by omega]
  rfl
 | k+1,t,a,b,c,d,e,f,g,q,w0,w1,w2,w3,w4,w5,w6,w7,w8,w9,w10,w11,w12,w13,w14,w15,ht,hr,hw,h,i,hi=>by
  have h0:=hw 0 (by omega) (by omega)
  rw[Nat.add_zero] at h0
  have h0:W t=w0:=h0
  unfold runS at h
  simp only[fI_eq] at h
  refine runS_ok hS k (t+1) _ a b c _ e f g w1 w2 w3 w4 w5 w6 w7 w8 w9 w10 w11 w12 w13 w14 w15 _ (by omega) (fun j hj=> ?_) (fun j hj hj2=> ?_) h i hi
  ·rw[rounds,h0,uY hr _ _ j hj]
   match j,hj with
   | 0,_=>rfl
   | 1,_=>rfl
   | 2,_=>rfl
   | 3,_=>rfl
   | 4,_=>rfl
   | 5,_=>rfl
   | 6,_=>rfl
   | 7,_=>rfl
  ·rcases Nat.lt_or_ge j 15 with h1 | h1
   ·rw[show t+1+j=t+(j+1) by omega,hw (j+1) (by omega) (by omega)]
    match j,h1 with
    | 0,_=>rfl
    | 1,_=>rfl
    | 2,_=>rfl
    | 3,_=>rfl
    | 4,_=>rfl
    | 5,_=>rfl
    | 6,_=>rfl
    | 7,_=>rfl
    | 8,_=>rfl
    | 9,_=>rfl
    | 10,_=>rfl
    | 11,_=>rfl
    | 12,_=>rfl
    | 13,_=>rfl
    | 14,_=>rfl
   ·obtain rfl:j=15:=by omega
    have e1:=hw 1 (by omega) (by omega)
    have e9:=hw 9 (by omega) (by omega)
    have e14:=hw 14 (by omega) (by omega)
    have e:=hS.2 t (by omega)
    rw[e1,e9,e14,h0] at e
    rw[show t+1+15=t+16 by omega,←e]
    rfl
def okBlk (H:E8) (ys:List Int) (R:E8):Bool:=
 fI (IntKind.u32.wrap (iL [ys.getD (64*0+4*0) 0,ys.getD (64*0+(4*0+1)) 0,ys.getD (64*0+(4*0+2)) 0,ys.getD (64*0+(4*0+3)) 0])) fun w0=>fI (IntKind.u32.wrap (iL [ys.getD (64*0+4*1) 0,ys.getD (64*0+(4*1+1)) 0,ys.getD (64*0+(4*1+2)) 0,ys.getD (64*0+(4*1+3)) 0])) fun w1=>fI (IntKind.u32.wrap (iL [ys.getD (64*0+4*2) 0,ys.getD (64*0+(4*2+1)) 0,ys.getD (64*0+(4*2+2)) 0,ys.getD (64*0+(4*2+3)) 0])) fun w2=>fI (IntKind.u32.wrap (iL [ys.getD (64*0+4*3) 0,ys.getD (64*0+(4*3+1)) 0,ys.getD (64*0+(4*3+2)) 0,ys.getD (64*0+(4*3+3)) 0])) fun w3=>fI (IntKind.u32.wrap (iL [ys.getD (64*0+4*4) 0,ys.getD (64*0+(4*4+1)) 0,ys.getD (64*0+(4*4+2)) 0,ys.getD (64*0+(4*4+3)) 0])) fun w4=>fI (IntKind.u32.wrap (iL [ys.getD (64*0+4*5) 0,ys.getD (64*0+(4*5+1)) 0,ys.getD (64*0+(4*5+2)) 0,ys.getD (64*0+(4*5+3)) 0])) fun w5=>fI (IntKind.u32.wrap (iL [ys.getD (64*0+4*6) 0,ys.getD (64*0+(4*6+1)) 0,ys.getD (64*0+(4*6+2)) 0,ys.getD (64*0+(4*6+3)) 0])) fun w6=>fI (IntKind.u32.wrap (iL [ys.getD (64*0+4*7) 0,ys.getD (64*0+(4*7+1)) 0,ys.getD (64*0+(4*7+2)) 0,ys.getD (64*0+(4*7+3)) 0])) fun w7=>fI (IntKind.u32.wrap (iL [ys.getD (64*0+4*8) 0,ys.getD (64*0+(4*8+1)) 0,ys.getD (64*0+(4*8+2)) 0,ys.getD (64*0+(4*8+3)) 0])) fun w8=>fI (IntKind.u32.wrap (iL [ys.getD (64*0+4*9) 0,ys.getD (64*0+(4*9+1)) 0,ys.getD (64*0+(4*9+2)) 0,ys.getD (64*0+(4*9+3)) 0])) fun w9=>fI (IntKind.u32.wrap (iL [ys.getD (64*0+4*10) 0,ys.getD (64*0+(4*10+1)) 0,ys.getD (64*0+(4*10+2)) 0,ys.getD (64*0+(4*10+3)) 0])) fun w10=>fI (IntKind.u32.wrap (iL [ys.getD (64*0+4*11) 0,ys.getD (64*0+(4*11+1)) 0,ys.getD (64*0+(4*11+2)) 0,ys.getD (64*0+(4*11+3)) 0])) fun w11=>fI (IntKind.u32.wrap (iL [ys.getD (64*0+4*12) 0,ys.getD (64*0+(4*12+1)) 0,ys.getD (64*0+(4*12+2)) 0,ys.getD (64*0+(4*12+3)) 0])) fun w12=>fI (IntKind.u32.wrap (iL [ys.getD (64*0+4*13) 0,ys.getD (64*0+(4*13+1)) 0,ys.getD (64*0+(4*13+2)) 0,ys.getD (64*0+(4*13+3)) 0])) fun w13=>fI (IntKind.u32.wrap (iL [ys.getD (64*0+4*14) 0,ys.getD (64*0+(4*14+1)) 0,ys.getD (64*0+(4*14+2)) 0,ys.getD (64*0+(4*14+3)) 0])) fun w14=>fI (IntKind.u32.wrap (iL [ys.getD (64*0+4*15) 0,ys.getD (64*0+(4*15+1)) 0,ys.getD (64*0+(4*15+2)) 0,ys.getD (64*0+(4*15+3)) 0])) fun w15=>runS H R 64 0 H.b0 H.b1 H.b2 H.b3 H.b4 H.b5 H.b6 H.b7 w0 w1 w2 w3 w4 w5 w6 w7 w8 w9 w10 w11 w12 w13 w14 w15
theorem blk_lit {R:E8} {ys:List Int} (h1:okBlk h0L ys R=true):∀i,i<8→lS h0L.at (kC fun j=>ys.getD (64*0+j) 0) i=R.at i:=by
 have hS:=lI fun j=>ys.getD (64*0+j) 0
 unfold okBlk at h1
 simp only[fI_eq] at h1
 refine runS_ok hS 64 0 _ _ _ _ _ _ _ _ _ _ _ _ _ _ _ _ _ _ _ _ _ _ _ _ rfl (fun i hi=> ?_) (fun j hj _=> ?_) h1
 ·match i,hi with
  | 0,_=>rfl
  | 1,_=>rfl
  | 2,_=>rfl
  | 3,_=>rfl
  | 4,_=>rfl
  | 5,_=>rfl
  | 6,_=>rfl
  | 7,_=>rfl
 ·rw[Nat.zero_add,←hS.1 j hj]
  match j,hj with
  | 0,_=>rfl
  | 1,_=>rfl
  | 2,_=>rfl
  | 3,_=>rfl
  | 4,_=>rfl
  | 5,_=>rfl
  | 6,_=>rfl
  | 7,_=>rfl
  | 8,_=>rfl
  | 9,_=>rfl
  | 10,_=>rfl
  | 11,_=>rfl
  | 12,_=>rfl
  | 13,_=>rfl
  | 14,_=>rfl
  | 15,_=>rfl
  | j+16,h=>exact absurd h (by omega)
theorem outR_congr {f g:Nat→Int} (h:∀i,i<8→f i=g i):outR f=outR g:=by
 unfold outR
 rw[h 0 (by omega),h 1 (by omega),h 2 (by omega),h 3 (by omega),h 4 (by omega),h 5 (by omega),h 6 (by omega),h 7 (by omega)]
theorem ref_lit {ys P:List Int} {R:E8} (hp:bV ys 64 8=P) (hl:P.length/64=1) (h1:okBlk h0L P R=true):refB ys=outR R.at:=by
 unfold refB
 rw[hp,hl]
 refine outR_congr fun i hi=> ?_
 rw[←blk_lit h1 i hi]
 show lS r256.h0 _ i=_
 refine sM (fun j hj=> ?_) (fun j hj=>rfl) i hi
 match j,hj with
 | 0,_=>rfl
 | 1,_=>rfl
 | 2,_=>rfl
 | 3,_=>rfl
 | 4,_=>rfl
 | 5,_=>rfl
 | 6,_=>rfl
 | 7,_=>rfl
end Go.Proofs.YtdccehmekkcheaaDoor.S3

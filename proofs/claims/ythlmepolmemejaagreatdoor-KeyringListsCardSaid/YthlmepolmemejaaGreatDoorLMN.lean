/- SHA-512 of given bytes: worked out by the kernel, word by word. Plain arithmetic. -/
import Derived.Test.YthlmepolmemejaaGreatDoorLMD
import Derived.Test.YthlmepolmemejaaGreatDoorLME
set_option linter.unusedVariables false
namespace Go.Proofs.YthlmepolmemejaaGreatDoor
open Go Go.Eng
set_option maxRecDepth 100000
def fI {α:Type} (x:Int) (k:Int→α):α:=match x with
 | .ofNat 0=>k 0
 | .ofNat (n+1)=>k (Int.ofNat (n+1))
 | .negSucc n=>k (Int.negSucc n)
theorem fI_eq {α:Type} (x:Int) (k:Int→α):fI x k=k x:=by
 cases x with
 | ofNat n=>cases n<;>rfl
 | negSucc n=>rfl
def sameE (f:Nat→Int) (s:E8):Bool:=f 0==s.b0&&(f 1==s.b1&&(f 2==s.b2&&(f 3==s.b3&&(f 4==s.b4&&(f 5==s.b5&&(f 6==s.b6&&f 7==s.b7))))))
theorem yw {f:Nat→Int} {s:E8} (h:sameE f s=true):∀i,i<8→f i=s.at i:=by
 unfold sameE at h
 simp only[Bool.and_eq_true,beq_iff_eq] at h
 obtain⟨h0,h1,h2,h3,h4,h5,h6,h7⟩:=h
 intro i hi
 match i,hi with
 | 0,_=>exact h0
 | 1,_=>exact h1
 | 2,_=>exact h2
 | 3,_=>exact h3
 | 4,_=>exact h4
 | 5,_=>exact h5
 | 6,_=>exact h6
 | 7,_=>exact h7
theorem round6_congr8 {f g:Nat→Int} (h:∀i,i<8→f i=g i) (k w:Int):∀i,i<8→vU f k w i=vU g k w i:=by
 have h0:=h 0 (by omega)
 have h1:=h 1 (by omega)
 have h2:=h 2 (by omega)
 have h3:=h 3 (by omega)
 have h4:=h 4 (by omega)
 have h5:=h 5 (by omega)
 have h6:=h 6 (by omega)
 have h7:=h 7 (by omega)
 have e1:t1G f k w=t1G g k w:=by unfold t1G;rw[h4,h5,h6,h7]
 have e2:t2G f=t2G g:=by unfold t2G;rw[h0,h1,h2]
 intro i hi
 match i,hi with
 | 0,_=>show addD (t1G f k w) (t2G f)=addD (t1G g k w) (t2G g);rw[e1,e2]
 | 1,_=>exact h0
 | 2,_=>exact h1
 | 3,_=>exact h2
 | 4,_=>show addD (f 3) (t1G f k w)=addD (g 3) (t1G g k w);rw[e1,h3]
 | 5,_=>exact h4
 | 6,_=>exact h5
 | 7,_=>exact h6
def runS (H R:E8):Nat→Nat→Int→Int→Int→Int→Int→Int→Int→Int→Int→Int→Int→Int→Int→Int→Int→Int→Int→Int→Int→Int→Int→Int→Int→Int→Bool
 | 0,t,a,b,c,d,e,f,g,q,w0,w1,w2,w3,w4,w5,w6,w7,w8,w9,w10,w11,w12,w13,w14,w15=>sameE (fun i=>addD (H.at i) ((⟨a,b,c,d,e,f,g,q⟩:E8).at i)) R
 | k+1,t,a,b,c,d,e,f,g,q,w0,w1,w2,w3,w4,w5,w6,w7,w8,w9,w10,w11,w12,w13,w14,w15=>fI (vU (⟨a,b,c,d,e,f,g,q⟩:E8).at (mY.getD t 0) w0 0) fun a'=>fI (vU (⟨a,b,c,d,e,f,g,q⟩:E8).at (mY.getD t 0) w0 4) fun e'=>fI (sched6 w14 w1 w9 w0) fun x=>runS H R k (t+1) a' a b c e' e f g w1 w2 w3 w4 w5 w6 w7 w8 w9 w10 w11 w12 w13 w14 w15 x
theorem xO {H R:E8} {ys:List Int} {W:Nat→Int} (hS:tQ ys W):∀(k t:Nat) (a b c d e f g q w0 w1 w2 w3 w4 w5 w6 w7 w8 w9 w10 w11 w12 w13 w14 w15:Int),t+k=80→(∀i,i<8→jW H.at W t i=(⟨a,b,c,d,e,f,g,q⟩:E8).at i)→(∀j,j<16→t+j<80→W (t+j)=([w0,w1,w2,w3,w4,w5,w6,w7,w8,w9,w10,w11,w12,w13,w14,w15]:List Int).getD j 0)→
  runS H R k t a b c d e f g q w0 w1 w2 w3 w4 w5 w6 w7 w8 w9 w10 w11 w12 w13 w14 w15=true→∀i,i<8→comp6 H.at W i=R.at i
 | 0,t,a,b,c,d,e,f,g,q,w0,w1,w2,w3,w4,w5,w6,w7,w8,w9,w10,w11,w12,w13,w14,w15,ht,hr,hw,h,i,hi=>by
  unfold runS at h
  have e:=yw h i hi
  rw[←e,←hr i hi,show t=80 by omega]
  rfl
 | k+1,t,a,b,c,d,e,f,g,q,w0,w1,w2,w3,w4,w5,w6,w7,w8,w9,w10,w11,w12,w13,w14,w15,ht,hr,hw,h,i,hi=>by
  have h0:=hw 0 (by omega) (by omega)
  rw[Nat.add_zero] at h0
  have h0:W t=w0:=h0
  unfold runS at h
  simp only[fI_eq] at h
  refine xO hS k (t+1) _ a b c _ e f g w1 w2 w3 w4 w5 w6 w7 w8 w9 w10 w11 w12 w13 w14 w15 _ (by omega) (fun j hj=> ?_) (fun j hj hj2=> ?_) h i hi
  ·rw[jW,h0,round6_congr8 hr _ _ j hj]
   match j,hj with
   | 0,_=>rfl
   | 1,_=>rfl
   | 2,_=>rfl
   | 3,_=>rfl
   | 4,_=>rfl
   | 5,_=>rfl
   | 6,_=>rfl
   | 7,_=>rfl
  ·rcases Nat.lt_or_ge j 15 with h1 | h1
   ·rw[show t+1+j=t+(j+1) by omega,hw (j+1) (by omega) (by omega)]
    match j,h1 with
    | 0,_=>rfl
    | 1,_=>rfl
    | 2,_=>rfl
    | 3,_=>rfl
    | 4,_=>rfl
    | 5,_=>rfl
    | 6,_=>rfl
    | 7,_=>rfl
    | 8,_=>rfl
    | 9,_=>rfl
    | 10,_=>rfl
    | 11,_=>rfl
    | 12,_=>rfl
    | 13,_=>rfl
    | 14,_=>rfl
   ·obtain rfl:j=15:=by omega
    have e1:=hw 1 (by omega) (by omega)
    have e9:=hw 9 (by omega) (by omega)
    have e14:=hw 14 (by omega) (by omega)
    have e:=hS.2 t (by omega)
    rw[e1,e9,e14,h0] at e
    rw[show t+1+15=t+16 by omega,←e]
    rfl
def okBlk (H:E8) (ys:List Int) (R:E8):Bool:=
 fI (cO ((ys.drop (8*0)).take 8)) fun w0=>fI (cO ((ys.drop (8*1)).take 8)) fun w1=>fI (cO ((ys.drop (8*2)).take 8)) fun w2=>fI (cO ((ys.drop (8*3)).take 8)) fun w3=>fI (cO ((ys.drop (8*4)).take 8)) fun w4=>fI (cO ((ys.drop (8*5)).take 8)) fun w5=>fI (cO ((ys.drop (8*6)).take 8)) fun w6=>fI (cO ((ys.drop (8*7)).take 8)) fun w7=>fI (cO ((ys.drop (8*8)).take 8)) fun w8=>fI (cO ((ys.drop (8*9)).take 8)) fun w9=>fI (cO ((ys.drop (8*10)).take 8)) fun w10=>fI (cO ((ys.drop (8*11)).take 8)) fun w11=>fI (cO ((ys.drop (8*12)).take 8)) fun w12=>fI (cO ((ys.drop (8*13)).take 8)) fun w13=>fI (cO ((ys.drop (8*14)).take 8)) fun w14=>fI (cO ((ys.drop (8*15)).take 8)) fun w15=>runS H R 80 0 H.b0 H.b1 H.b2 H.b3 H.b4 H.b5 H.b6 H.b7 w0 w1 w2 w3 w4 w5 w6 w7 w8 w9 w10 w11 w12 w13 w14 w15
theorem blk_lit {h R:E8} {ys:List Int} (h1:okBlk h ys R=true):jN h ys=R:=by
 have hS:=sH ys
 unfold okBlk at h1
 simp only[fI_eq] at h1
 have e:=xO hS 80 0 _ _ _ _ _ _ _ _ _ _ _ _ _ _ _ _ _ _ _ _ _ _ _ _ rfl (fun i hi=> ?_) (fun j hj _=> ?_) h1
 ·unfold jN E8.mk'
  rw[e 0 (by omega),e 1 (by omega),e 2 (by omega),e 3 (by omega),e 4 (by omega),e 5 (by omega),e 6 (by omega),e 7 (by omega)]
  rfl
 ·match i,hi with
  | 0,_=>rfl
  | 1,_=>rfl
  | 2,_=>rfl
  | 3,_=>rfl
  | 4,_=>rfl
  | 5,_=>rfl
  | 6,_=>rfl
  | 7,_=>rfl
 ·rw[Nat.zero_add,←hS.1 j hj]
  match j,hj with
  | 0,_=>rfl
  | 1,_=>rfl
  | 2,_=>rfl
  | 3,_=>rfl
  | 4,_=>rfl
  | 5,_=>rfl
  | 6,_=>rfl
  | 7,_=>rfl
  | 8,_=>rfl
  | 9,_=>rfl
  | 10,_=>rfl
  | 11,_=>rfl
  | 12,_=>rfl
  | 13,_=>rfl
  | 14,_=>rfl
  | 15,_=>rfl
  | j+16,h=>exact absurd h (by omega)
theorem base_lit {n q:B32} {X Y:Nat} (hn:BOk n) (hq:BOk q) (h:nC bC (NV n)=(dJ X,dJ Y)) (e:VB q=encV (dJ X,dJ Y)):qU n=q:=by
 rw[←Ap hn]
 have hp:=base_pt hn
 refine VB_inj _ _ hp.ok hq ?_
 rw[hp.val,h,e]
def hzd:B64:=⟨80,70,173,193,219,168,56,134,123,43,187,253,208,195,66,62,88,181,121,112,181,38,122,144,245,121,96,146,74,135,241,150,10,106,133,234,166,66,218,200,53,66,75,93,124,141,99,124,0,64,140,122,115,218,103,43,127,73,133,33,66,11,109,211⟩
end Go.Proofs.YthlmepolmemejaaGreatDoor

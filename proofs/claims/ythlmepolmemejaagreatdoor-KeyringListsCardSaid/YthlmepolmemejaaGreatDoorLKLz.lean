/- The law KeyringLists: runs, by the arguments' shapes. -/
import Derived.Test.YthlmepolmemejaaGreatDoorLFo
import Derived.Test.YthlmepolmemejaaGreatDoorLKLw
set_option linter.unusedSimpArgs false
set_option linter.unusedVariables false
namespace Go.Proofs.YthlmepolmemejaaGreatDoor
open Go Go.Eng Go.RowKit
set_option maxRecDepth 100000
namespace lkl
namespace mz
def m (S:List B32) (ty:TypeId) (E:List Int) (ty':TypeId) (F:Keys) (ep at_ wh:Int):List Blk:=[⟨false,ty,.prv (bD S)⟩,⟨false,ty',.pre .u8 E⟩,⟨true,28,.lit F.row⟩]
def M3 (ep at_ wh:Int):List (Option SV):=aJ 150 0 [(2,.o (.a (aB .i64 at_))),(3,.o (.a (aB .i64 wh))),(4,.o (.a (aB .u64 ep))),(11,.o (.a (.ptr 2 0))),(12,.o (.a (.v (.slice none 0 0))))]
def M5 (ep:Int):List (Option SV):=aJ 150 0 [(4,.o (.a (aB .u64 ep))),(11,.o (.a (.ptr 2 0))),(12,.o (.a (.v (.slice none 0 0))))]
section
variable (S:List B32) (ty:TypeId) (E:List Int) (ty':TypeId) (F:Keys) (ep at_ wh:Int)
theorem i3:oI (M3 ep at_ wh) (m S ty E ty' F ep at_ wh):=by delta oI;kernel_rfl
theorem i5:oI (M5 ep) (m S ty E ty' F ep at_ wh):=by delta oI;kernel_rfl
theorem c (g:Nat→SV):oX ([]:Cons Tryz.prog G3) 300 C4 (fill g 0 (M3 ep at_ wh )) (m S ty E ty' F ep at_ wh) [] .normal (M5 ep) (m S ty E ty' F ep at_ wh) []:=by delta oX;kernel_rfl
end
theorem go (V:Keys→Cert→Int) (hV:V=ccV) (S:List B32) (ty:TypeId) (E:List Int) (ty':TypeId) (F:Keys) (ep at_ wh:Int) (g:Nat→SV):aK Tryz.prog G3 2 (bY 3 body) (fill g 0 (M3 ep at_ wh )) (m S ty E ty' F ep at_ wh ) (aN tys fn (bA (aY.enc true) .none)):=by
 rw[body3]
 exact Runs.seq (Runs.au ah mixed (c S ty E ty' F ep at_ wh g) trivial (i5 S ty E ty' F ep at_ wh ) rfl fun g=>n.run V hV S ty E ty' F ep g)
end mz
namespace pww
theorem run (V:Keys→Cert→Int) (hV:V=ccV) (C:B32→Keys→Int→Cert) (hC:C=bQ) (S:List B32) (n c:Nat) (ty:TypeId) (E:List Int) (m d:Nat) (ty':TypeId) (F:Keys) (ep at_ wh:Int) (l:List Cert) (q:Nat) (hn:S.length=n) (hc:n≤c) (hm:n≤9223372036854775807) (hS:∀i,i<n→BOk (S.getD i aM)) (hF:F=bI (S.getD 0 aM) 0) (hz:BOk aM) (hq:q=mkN n) (h0:0<q) (hE:E.length=m) (hd:m≤d) (hl:l=mkL C S E q) (h5:q≤5) (hlen:l.length=q) (hx:∀i,i<q→COk (l.getD i zc)) (hsg:BOk F.sg) (hep:U64 ep):
  aK Tryz.prog G3 2 body (aH fn [.o (.a (.sld 0 0 0 n c)),.o (.a (.sld 1 0 0 m d)),.o (.a (aB .i64 at_)),.o (.a (aB .i64 wh)),.o (.a (aB .u64 ep))]) [⟨false,ty,.prv (bD S)⟩,⟨false,ty',.pre .u8 E⟩] (aN tys fn (bA (aY.enc true) .none)):=
 Runs.nH ah mixed 3 [0,1,2,3] (s C hC S n c ty E m d ty' F ep at_ wh l q ) ⟨by rw[show(bD S).length=n*32 from by rw[←hn];exact fG jG S];omega,hc,by omega,hd,vO _ (by rw[←hn];exact fG jG S),hn,hm,hS,hF,hz,hq,h0,by rw[show(E.drop (0+0)).take m=E from vO _ hE];exact hl,trivial⟩ (mu.i3 S ty E ty' F ep at_ wh q _ _ _) (by kernel_rfl) fun g=>mu.go V hV S ty E ty' F ep at_ wh q l hlen h0 h5 hx hsg hep g
end pww
namespace pwv
theorem run (V:Keys→Cert→Int) (hV:V=ccV) (C:B32→Keys→Int→Cert) (hC:C=bQ) (S:List B32) (n c:Nat) (ty:TypeId) (a:Option Addr) (ty':TypeId) (F:Keys) (ep at_ wh:Int) (l:List Cert) (q:Nat) (hn:S.length=n) (hc:n≤c) (hm:n≤9223372036854775807) (hS:∀i,i<n→BOk (S.getD i aM)) (hF:F=bI (S.getD 0 aM) 0) (hz:BOk aM) (hq:q=mkN n) (h0:0<q) (hl:l=mkL C S [] q) (h5:q≤5) (hlen:l.length=q) (hx:∀i,i<q→COk (l.getD i zc)) (hsg:BOk F.sg) (hep:U64 ep):
  aK Tryz.prog G3 2 body (aH fn [.o (.a (.sld 0 0 0 n c)),.o (.a (.v (.slice a 0 0))),.o (.a (aB .i64 at_)),.o (.a (aB .i64 wh)),.o (.a (aB .u64 ep))]) [⟨false,ty,.prv (bD S)⟩,⟨false,ty',.pre .u8 []⟩] (aN tys fn (bA (aY.enc true) .none)):=
 Runs.nH ah mixed 3 [0,1,2,3] (s C hC S n c ty a ty' F ep at_ wh l q ) ⟨by rw[show(bD S).length=n*32 from by rw[←hn];exact fG jG S];omega,hc,vO _ (by rw[←hn];exact fG jG S),hn,hm,hS,hF,hz,hq,h0,hl,trivial⟩ (mu.i3 S ty [] ty' F ep at_ wh q _ _ _) (by kernel_rfl) fun g=>mu.go V hV S ty [] ty' F ep at_ wh q l hlen h0 h5 hx hsg hep g
end pwv
namespace zww
theorem s (C:B32→Keys→Int→Cert) (hC:C=bQ) (S:List B32) (n c:Nat) (ty:TypeId) (E:List Int) (m d:Nat) (ty':TypeId) (F:Keys) (ep at_ wh:Int):oN [0,1,2] ([qM,mad.conZ C hC S F]:Cons Tryz.prog G3) 100 (dU 3 body) (aH fn [.o (.a (.sld 0 0 0 n c)),.o (.a (.sld 1 0 0 m d)),.o (.a (aB .i64 at_)),.o (.a (aB .i64 wh)),.o (.a (aB .u64 ep))]) ([⟨false,ty,.prv (bD S)⟩,⟨false,ty',.pre .u8 E⟩]:List Blk) [] .normal (mz.M3 ep at_ wh) (mz.m S ty E ty' F ep at_ wh) [0+0+n*32≤(bD S).length,n≤c,0+0+m≤E.length,m≤d,(((bD S).drop (0+0)).take (n*32))=bD S,S.length=n,n≤9223372036854775807,∀i,i<n→BOk (S.getD i aM),F=bI (S.getD 0 aM) 0,BOk aM,mkN n=0]:=by delta oN;kernel_rfl
theorem run (V:Keys→Cert→Int) (hV:V=ccV) (C:B32→Keys→Int→Cert) (hC:C=bQ) (S:List B32) (n c:Nat) (ty:TypeId) (E:List Int) (m d:Nat) (ty':TypeId) (F:Keys) (ep at_ wh:Int) (hn:S.length=n) (hc:n≤c) (hm:n≤9223372036854775807) (hS:∀i,i<n→BOk (S.getD i aM)) (hq:mkN n=0) (hF:F=bI (S.getD 0 aM) 0) (hE:E.length=m) (hd:m≤d) (hz:BOk aM):aK Tryz.prog G3 2 body (aH fn [.o (.a (.sld 0 0 0 n c)),.o (.a (.sld 1 0 0 m d)),.o (.a (aB .i64 at_)),.o (.a (aB .i64 wh)),.o (.a (aB .u64 ep))]) [⟨false,ty,.prv (bD S)⟩,⟨false,ty',.pre .u8 E⟩] (aN tys fn (bA (aY.enc true) .none)):=
 Runs.nH ah mixed 3 [0,1,2] (s C hC S n c ty E m d ty' F ep at_ wh ) ⟨by rw[show(bD S).length=n*32 from by rw[←hn];exact fG jG S];omega,hc,by omega,hd,vO _ (by rw[←hn];exact fG jG S),hn,hm,hS,hF,hz,hq,trivial⟩ (mz.i3 S ty E ty' F ep at_ wh ) (by kernel_rfl) fun g=>mz.go V hV S ty E ty' F ep at_ wh g
end zww
namespace zwv
theorem s (C:B32→Keys→Int→Cert) (hC:C=bQ) (S:List B32) (n c:Nat) (ty:TypeId) (a:Option Addr) (ty':TypeId) (F:Keys) (ep at_ wh:Int):oN [0,1,2] ([qM,mad.conZ C hC S F]:Cons Tryz.prog G3) 100 (dU 3 body) (aH fn [.o (.a (.sld 0 0 0 n c)),.o (.a (.v (.slice a 0 0))),.o (.a (aB .i64 at_)),.o (.a (aB .i64 wh)),.o (.a (aB .u64 ep))]) ([⟨false,ty,.prv (bD S)⟩,⟨false,ty',.pre .u8 []⟩]:List Blk) [] .normal (mz.M3 ep at_ wh) (mz.m S ty [] ty' F ep at_ wh) [0+0+n*32≤(bD S).length,n≤c,(((bD S).drop (0+0)).take (n*32))=bD S,S.length=n,n≤9223372036854775807,∀i,i<n→BOk (S.getD i aM),F=bI (S.getD 0 aM) 0,BOk aM,mkN n=0]:=by delta oN;kernel_rfl
theorem run (V:Keys→Cert→Int) (hV:V=ccV) (C:B32→Keys→Int→Cert) (hC:C=bQ) (S:List B32) (n c:Nat) (ty:TypeId) (a:Option Addr) (ty':TypeId) (F:Keys) (ep at_ wh:Int) (hn:S.length=n) (hc:n≤c) (hm:n≤9223372036854775807) (hS:∀i,i<n→BOk (S.getD i aM)) (hq:mkN n=0) (hF:F=bI (S.getD 0 aM) 0) (hz:BOk aM):aK Tryz.prog G3 2 body (aH fn [.o (.a (.sld 0 0 0 n c)),.o (.a (.v (.slice a 0 0))),.o (.a (aB .i64 at_)),.o (.a (aB .i64 wh)),.o (.a (aB .u64 ep))]) [⟨false,ty,.prv (bD S)⟩,⟨false,ty',.pre .u8 []⟩] (aN tys fn (bA (aY.enc true) .none)):=
 Runs.nH ah mixed 3 [0,1,2] (s C hC S n c ty a ty' F ep at_ wh ) ⟨by rw[show(bD S).length=n*32 from by rw[←hn];exact fG jG S];omega,hc,vO _ (by rw[←hn];exact fG jG S),hn,hm,hS,hF,hz,hq,trivial⟩ (mz.i3 S ty [] ty' F ep at_ wh ) (by kernel_rfl) fun g=>mz.go V hV S ty [] ty' F ep at_ wh g
end zwv
namespace zvw
theorem s (C:B32→Keys→Int→Cert) (hC:C=bQ) (b:Option Addr) (ty:TypeId) (E:List Int) (m d:Nat) (ty':TypeId) (F:Keys) (ep at_ wh:Int):oN [0,1,2] ([qM,mad.conZ C hC [] F]:Cons Tryz.prog G3) 100 (dU 3 body) (aH fn [.o (.a (.v (.slice b 0 0))),.o (.a (.sld 1 0 0 m d)),.o (.a (aB .i64 at_)),.o (.a (aB .i64 wh)),.o (.a (aB .u64 ep))]) ([⟨false,ty,.prv (bD [])⟩,⟨false,ty',.pre .u8 E⟩]:List Blk) [] .normal (mz.M3 ep at_ wh) (mz.m [] ty E ty' F ep at_ wh) [0+0+m≤E.length,m≤d,F=bI aM 0,BOk aM]:=by delta oN;kernel_rfl
theorem run (V:Keys→Cert→Int) (hV:V=ccV) (C:B32→Keys→Int→Cert) (hC:C=bQ) (b:Option Addr) (ty:TypeId) (E:List Int) (m d:Nat) (ty':TypeId) (F:Keys) (ep at_ wh:Int) (hF:F=bI aM 0) (hE:E.length=m) (hd:m≤d) (hz:BOk aM):aK Tryz.prog G3 2 body (aH fn [.o (.a (.v (.slice b 0 0))),.o (.a (.sld 1 0 0 m d)),.o (.a (aB .i64 at_)),.o (.a (aB .i64 wh)),.o (.a (aB .u64 ep))]) [⟨false,ty,.prv (bD [])⟩,⟨false,ty',.pre .u8 E⟩] (aN tys fn (bA (aY.enc true) .none)):=
 Runs.nH ah mixed 3 [0,1,2] (s C hC b ty E m d ty' F ep at_ wh ) ⟨by omega,hd,hF,hz,trivial⟩ (mz.i3 [] ty E ty' F ep at_ wh ) (by kernel_rfl) fun g=>mz.go V hV [] ty E ty' F ep at_ wh g
end zvw
namespace zvv
theorem s (C:B32→Keys→Int→Cert) (hC:C=bQ) (b:Option Addr) (ty:TypeId) (a:Option Addr) (ty':TypeId) (F:Keys) (ep at_ wh:Int):oN [0,1,2] ([qM,mad.conZ C hC [] F]:Cons Tryz.prog G3) 100 (dU 3 body) (aH fn [.o (.a (.v (.slice b 0 0))),.o (.a (.v (.slice a 0 0))),.o (.a (aB .i64 at_)),.o (.a (aB .i64 wh)),.o (.a (aB .u64 ep))]) ([⟨false,ty,.prv (bD [])⟩,⟨false,ty',.pre .u8 []⟩]:List Blk) [] .normal (mz.M3 ep at_ wh) (mz.m [] ty [] ty' F ep at_ wh) [F=bI aM 0,BOk aM]:=by delta oN;kernel_rfl
theorem run (V:Keys→Cert→Int) (hV:V=ccV) (C:B32→Keys→Int→Cert) (hC:C=bQ) (b:Option Addr) (ty:TypeId) (a:Option Addr) (ty':TypeId) (F:Keys) (ep at_ wh:Int) (hF:F=bI aM 0) (hz:BOk aM):aK Tryz.prog G3 2 body (aH fn [.o (.a (.v (.slice b 0 0))),.o (.a (.v (.slice a 0 0))),.o (.a (aB .i64 at_)),.o (.a (aB .i64 wh)),.o (.a (aB .u64 ep))]) [⟨false,ty,.prv (bD [])⟩,⟨false,ty',.pre .u8 []⟩] (aN tys fn (bA (aY.enc true) .none)):=
 Runs.nH ah mixed 3 [0,1,2] (s C hC b ty a ty' F ep at_ wh ) ⟨hF,hz,trivial⟩ (mz.i3 [] ty [] ty' F ep at_ wh ) (by kernel_rfl) fun g=>mz.go V hV [] ty [] ty' F ep at_ wh g
end zvv
end lkl
end Go.Proofs.YthlmepolmemejaaGreatDoor

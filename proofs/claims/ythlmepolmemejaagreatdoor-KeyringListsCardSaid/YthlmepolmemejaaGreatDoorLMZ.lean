/- Package wire: Encode of longer lists of slices: walks, contracts. -/
import Derived.Test.YthlmepolmemejaaGreatDoorLFo
import Derived.Test.YthlmepolmemejaaGreatDoorLML
set_option linter.unusedSimpArgs false
set_option linter.unusedVariables false
namespace Go.Proofs.YthlmepolmemejaaGreatDoor
open Go Go.Eng Go.RowKit
set_option maxRecDepth 100000
namespace enc
namespace k5
noncomputable def e (G:Glob) (y1:List Int) (n1:Nat) (t1:TypeId) (y2:List Int) (n2:Nat) (t2:TypeId) (y3:List Int) (n3:Nat) (t3:TypeId) (y4:List Int) (n4:Nat) (t4:TypeId) (y5:List Int) (n5:Nat) (t5:TypeId) (ty:TypeId):St:=dz (Γ (G:=G)) tys 200 body ⟨aH fn [.o (.a (.slc 0 0 5 5))],[⟨false,ty,.lit [.slg 1 n1,.slg 2 n2,.slg 3 n3,.slg 4 n4,.slg 5 n5]⟩,⟨false,t1,.pre .u8 y1⟩,⟨false,t2,.pre .u8 y2⟩,⟨false,t3,.pre .u8 y3⟩,⟨false,t4,.pre .u8 y4⟩,⟨false,t5,.pre .u8 y5⟩],[(20,[.n ((4+4:Nat):Int),.n ((4+4+n1+4:Nat):Int),.n ((4+4+n1+4+n2+4:Nat):Int),.n ((4+4+n1+4+n2+4+n3+4:Nat):Int),.n ((4+4+n1+4+n2+4+n3+4+n4+4:Nat):Int)]),(24,[.n (1048576-((4+4:Nat):Int)),.n (1048576-((4+4+n1+4:Nat):Int)),.n (1048576-((4+4+n1+4+n2+4:Nat):Int)),.n (1048576-((4+4+n1+4+n2+4+n3+4:Nat):Int)),.n (1048576-((4+4+n1+4+n2+4+n3+4+n4+4:Nat):Int))]),(25,[.b false,.b false,.b false,.b false,.b false]),(29,[.n ((4+4+n1:Nat):Int),.n ((4+4+n1+4+n2:Nat):Int),.n ((4+4+n1+4+n2+4+n3:Nat):Int),.n ((4+4+n1+4+n2+4+n3+4+n4:Nat):Int),.n ((4+4+n1+4+n2+4+n3+4+n4+4+n5:Nat):Int)])]⟩
def c (y1:List Int) (n1:Nat) (t1:TypeId) (y2:List Int) (n2:Nat) (t2:TypeId) (y3:List Int) (n3:Nat) (t3:TypeId) (y4:List Int) (n4:Nat) (t4:TypeId) (y5:List Int) (n5:Nat) (t5:TypeId) (ty:TypeId):Cst:=[IntKind.i64.wrap (((4:Nat):Int)+4)=((4+4:Nat):Int),IntKind.i64.wrap (1048576-((4+4:Nat):Int))=1048576-((4+4:Nat):Int),decide (((n1:Nat):Int)>1048576-((4+4:Nat):Int))=false,IntKind.i64.wrap (((4+4:Nat):Int)+((n1:Nat):Int))=((4+4+n1:Nat):Int),IntKind.i64.wrap (((4+4+n1:Nat):Int)+4)=((4+4+n1+4:Nat):Int),IntKind.i64.wrap (1048576-((4+4+n1+4:Nat):Int))=1048576-((4+4+n1+4:Nat):Int),decide (((n2:Nat):Int)>1048576-((4+4+n1+4:Nat):Int))=false,IntKind.i64.wrap (((4+4+n1+4:Nat):Int)+((n2:Nat):Int))=((4+4+n1+4+n2:Nat):Int),IntKind.i64.wrap (((4+4+n1+4+n2:Nat):Int)+4)=((4+4+n1+4+n2+4:Nat):Int),IntKind.i64.wrap (1048576-((4+4+n1+4+n2+4:Nat):Int))=1048576-((4+4+n1+4+n2+4:Nat):Int),decide (((n3:Nat):Int)>1048576-((4+4+n1+4+n2+4:Nat):Int))=false,IntKind.i64.wrap (((4+4+n1+4+n2+4:Nat):Int)+((n3:Nat):Int))=((4+4+n1+4+n2+4+n3:Nat):Int),IntKind.i64.wrap (((4+4+n1+4+n2+4+n3:Nat):Int)+4)=((4+4+n1+4+n2+4+n3+4:Nat):Int),IntKind.i64.wrap (1048576-((4+4+n1+4+n2+4+n3+4:Nat):Int))=1048576-((4+4+n1+4+n2+4+n3+4:Nat):Int),decide (((n4:Nat):Int)>1048576-((4+4+n1+4+n2+4+n3+4:Nat):Int))=false,IntKind.i64.wrap (((4+4+n1+4+n2+4+n3+4:Nat):Int)+((n4:Nat):Int))=((4+4+n1+4+n2+4+n3+4+n4:Nat):Int),IntKind.i64.wrap (((4+4+n1+4+n2+4+n3+4+n4:Nat):Int)+4)=((4+4+n1+4+n2+4+n3+4+n4+4:Nat):Int),IntKind.i64.wrap (1048576-((4+4+n1+4+n2+4+n3+4+n4+4:Nat):Int))=1048576-((4+4+n1+4+n2+4+n3+4+n4+4:Nat):Int),decide (((n5:Nat):Int)>1048576-((4+4+n1+4+n2+4+n3+4+n4+4:Nat):Int))=false,IntKind.i64.wrap (((4+4+n1+4+n2+4+n3+4+n4+4:Nat):Int)+((n5:Nat):Int))=((4+4+n1+4+n2+4+n3+4+n4+4+n5:Nat):Int),(0:Int)≤0,(0:Int)≤((4+4+n1+4+n2+4+n3+4+n4+4+n5:Nat):Int),Room Tryz.prog 5 (4+4+n1+4+n2+4+n3+4+n4+4+n5),0≤4+4+n1+4+n2+4+n3+4+n4+4+n5,0+4≤4+4+n1+4+n2+4+n3+4+n4+4+n5,0+0+4≤(List.replicate (4+4+n1+4+n2+4+n3+4+n4+4+n5) (0:Int)).length,4≤4+4+n1+4+n2+4+n3+4+n4+4+n5,4+4≤4+4+n1+4+n2+4+n3+4+n4+4+n5,0+(4)+4≤(bq (0+0) (b4 ((5:Nat):Int)) 0 (List.replicate (4+4+n1+4+n2+4+n3+4+n4+4+n5) (0:Int))).length,0+n1≤y1.length,4+4+n1≤4+4+n1+4+n2+4+n3+4+n4+4+n5,0+(4+4)+n1≤(bq (0+(4)) (b4 ((n1:Nat):Int)) 0 (bq (0+0) (b4 ((5:Nat):Int)) 0 (List.replicate (4+4+n1+4+n2+4+n3+4+n4+4+n5) (0:Int)))).length,4+4+n1≤4+4+n1+4+n2+4+n3+4+n4+4+n5,4+4+n1+4≤4+4+n1+4+n2+4+n3+4+n4+4+n5,0+(4+4+n1)+4≤(bq (0+(4+4)) ((y1.drop 0).take n1) 0 (bq (0+(4)) (b4 ((n1:Nat):Int)) 0 (bq (0+0) (b4 ((5:Nat):Int)) 0 (List.replicate (4+4+n1+4+n2+4+n3+4+n4+4+n5) (0:Int))))).length,0+n2≤y2.length,4+4+n1+4+n2≤4+4+n1+4+n2+4+n3+4+n4+4+n5,0+(4+4+n1+4)+n2≤(bq (0+(4+4+n1)) (b4 ((n2:Nat):Int)) 0 (bq (0+(4+4)) ((y1.drop 0).take n1) 0 (bq (0+(4)) (b4 ((n1:Nat):Int)) 0 (bq (0+0) (b4 ((5:Nat):Int)) 0 (List.replicate (4+4+n1+4+n2+4+n3+4+n4+4+n5) (0:Int)))))).length,4+4+n1+4+n2≤4+4+n1+4+n2+4+n3+4+n4+4+n5,4+4+n1+4+n2+4≤4+4+n1+4+n2+4+n3+4+n4+4+n5,0+(4+4+n1+4+n2)+4≤(bq (0+(4+4+n1+4)) ((y2.drop 0).take n2) 0 (bq (0+(4+4+n1)) (b4 ((n2:Nat):Int)) 0 (bq (0+(4+4)) ((y1.drop 0).take n1) 0 (bq (0+(4)) (b4 ((n1:Nat):Int)) 0 (bq (0+0) (b4 ((5:Nat):Int)) 0 (List.replicate (4+4+n1+4+n2+4+n3+4+n4+4+n5) (0:Int))))))).length,0+n3≤y3.length,4+4+n1+4+n2+4+n3≤4+4+n1+4+n2+4+n3+4+n4+4+n5,0+(4+4+n1+4+n2+4)+n3≤(bq (0+(4+4+n1+4+n2)) (b4 ((n3:Nat):Int)) 0 (bq (0+(4+4+n1+4)) ((y2.drop 0).take n2) 0 (bq (0+(4+4+n1)) (b4 ((n2:Nat):Int)) 0 (bq (0+(4+4)) ((y1.drop 0).take n1) 0 (bq (0+(4)) (b4 ((n1:Nat):Int)) 0 (bq (0+0) (b4 ((5:Nat):Int)) 0 (List.replicate (4+4+n1+4+n2+4+n3+4+n4+4+n5) (0:Int)))))))).length,4+4+n1+4+n2+4+n3≤4+4+n1+4+n2+4+n3+4+n4+4+n5,4+4+n1+4+n2+4+n3+4≤4+4+n1+4+n2+4+n3+4+n4+4+n5,0+(4+4+n1+4+n2+4+n3)+4≤(bq (0+(4+4+n1+4+n2+4)) ((y3.drop 0).take n3) 0 (bq (0+(4+4+n1+4+n2)) (b4 ((n3:Nat):Int)) 0 (bq (0+(4+4+n1+4)) ((y2.drop 0).take n2) 0 (bq (0+(4+4+n1)) (b4 ((n2:Nat):Int)) 0 (bq (0+(4+4)) ((y1.drop 0).take n1) 0 (bq (0+(4)) (b4 ((n1:Nat):Int)) 0 (bq (0+0) (b4 ((5:Nat):Int)) 0 (List.replicate (4+4+n1+4+n2+4+n3+4+n4+4+n5) (0:Int))))))))).length,0+n4≤y4.length,4+4+n1+4+n2+4+n3+4+n4≤4+4+n1+4+n2+4+n3+4+n4+4+n5,0+(4+4+n1+4+n2+4+n3+4)+n4≤(bq (0+(4+4+n1+4+n2+4+n3)) (b4 ((n4:Nat):Int)) 0 (bq (0+(4+4+n1+4+n2+4)) ((y3.drop 0).take n3) 0 (bq (0+(4+4+n1+4+n2)) (b4 ((n3:Nat):Int)) 0 (bq (0+(4+4+n1+4)) ((y2.drop 0).take n2) 0 (bq (0+(4+4+n1)) (b4 ((n2:Nat):Int)) 0 (bq (0+(4+4)) ((y1.drop 0).take n1) 0 (bq (0+(4)) (b4 ((n1:Nat):Int)) 0 (bq (0+0) (b4 ((5:Nat):Int)) 0 (List.replicate (4+4+n1+4+n2+4+n3+4+n4+4+n5) (0:Int)))))))))).length,4+4+n1+4+n2+4+n3+4+n4≤4+4+n1+4+n2+4+n3+4+n4+4+n5,4+4+n1+4+n2+4+n3+4+n4+4≤4+4+n1+4+n2+4+n3+4+n4+4+n5,0+(4+4+n1+4+n2+4+n3+4+n4)+4≤(bq (0+(4+4+n1+4+n2+4+n3+4)) ((y4.drop 0).take n4) 0 (bq (0+(4+4+n1+4+n2+4+n3)) (b4 ((n4:Nat):Int)) 0 (bq (0+(4+4+n1+4+n2+4)) ((y3.drop 0).take n3) 0 (bq (0+(4+4+n1+4+n2)) (b4 ((n3:Nat):Int)) 0 (bq (0+(4+4+n1+4)) ((y2.drop 0).take n2) 0 (bq (0+(4+4+n1)) (b4 ((n2:Nat):Int)) 0 (bq (0+(4+4)) ((y1.drop 0).take n1) 0 (bq (0+(4)) (b4 ((n1:Nat):Int)) 0 (bq (0+0) (b4 ((5:Nat):Int)) 0 (List.replicate (4+4+n1+4+n2+4+n3+4+n4+4+n5) (0:Int))))))))))).length,0+n5≤y5.length,4+4+n1+4+n2+4+n3+4+n4+4+n5≤4+4+n1+4+n2+4+n3+4+n4+4+n5,0+(4+4+n1+4+n2+4+n3+4+n4+4)+n5≤(bq (0+(4+4+n1+4+n2+4+n3+4+n4)) (b4 ((n5:Nat):Int)) 0 (bq (0+(4+4+n1+4+n2+4+n3+4)) ((y4.drop 0).take n4) 0 (bq (0+(4+4+n1+4+n2+4+n3)) (b4 ((n4:Nat):Int)) 0 (bq (0+(4+4+n1+4+n2+4)) ((y3.drop 0).take n3) 0 (bq (0+(4+4+n1+4+n2)) (b4 ((n3:Nat):Int)) 0 (bq (0+(4+4+n1+4)) ((y2.drop 0).take n2) 0 (bq (0+(4+4+n1)) (b4 ((n2:Nat):Int)) 0 (bq (0+(4+4)) ((y1.drop 0).take n1) 0 (bq (0+(4)) (b4 ((n1:Nat):Int)) 0 (bq (0+0) (b4 ((5:Nat):Int)) 0 (List.replicate (4+4+n1+4+n2+4+n3+4+n4+4+n5) (0:Int)))))))))))).length]
section
variable {G:Glob} (y1:List Int) (n1:Nat) (t1:TypeId) (y2:List Int) (n2:Nat) (t2:TypeId) (y3:List Int) (n3:Nat) (t3:TypeId) (y4:List Int) (n4:Nat) (t4:TypeId) (y5:List Int) (n5:Nat) (t5:TypeId) (ty:TypeId)
theorem ex:exec (Γ (G:=G)) tys 200 body ⟨aH fn [.o (.a (.slc 0 0 5 5))],[⟨false,ty,.lit [.slg 1 n1,.slg 2 n2,.slg 3 n3,.slg 4 n4,.slg 5 n5]⟩,⟨false,t1,.pre .u8 y1⟩,⟨false,t2,.pre .u8 y2⟩,⟨false,t3,.pre .u8 y3⟩,⟨false,t4,.pre .u8 y4⟩,⟨false,t5,.pre .u8 y5⟩],[(20,[.n ((4+4:Nat):Int),.n ((4+4+n1+4:Nat):Int),.n ((4+4+n1+4+n2+4:Nat):Int),.n ((4+4+n1+4+n2+4+n3+4:Nat):Int),.n ((4+4+n1+4+n2+4+n3+4+n4+4:Nat):Int)]),(24,[.n (1048576-((4+4:Nat):Int)),.n (1048576-((4+4+n1+4:Nat):Int)),.n (1048576-((4+4+n1+4+n2+4:Nat):Int)),.n (1048576-((4+4+n1+4+n2+4+n3+4:Nat):Int)),.n (1048576-((4+4+n1+4+n2+4+n3+4+n4+4:Nat):Int))]),(25,[.b false,.b false,.b false,.b false,.b false]),(29,[.n ((4+4+n1:Nat):Int),.n ((4+4+n1+4+n2:Nat):Int),.n ((4+4+n1+4+n2+4+n3:Nat):Int),.n ((4+4+n1+4+n2+4+n3+4+n4:Nat):Int),.n ((4+4+n1+4+n2+4+n3+4+n4+4+n5:Nat):Int)])]⟩=some (.ret,⟨(e G y1 n1 t1 y2 n2 t2 y3 n3 t3 y4 n4 t4 y5 n5 t5 ty ).tm,(e G y1 n1 t1 y2 n2 t2 y3 n3 t3 y4 n4 t4 y5 n5 t5 ty ).mem,(e G y1 n1 t1 y2 n2 t2 y3 n3 t3 y4 n4 t4 y5 n5 t5 ty ).orc⟩,c y1 n1 t1 y2 n2 t2 y3 n3 t3 y4 n4 t4 y5 n5 t5 ty ):=by kernel_rfl
theorem res:eRes tys (e G y1 n1 t1 y2 n2 t2 y3 n3 t3 y4 n4 t4 y5 n5 t5 ty ).tm (fun k=>(e G y1 n1 t1 y2 n2 t2 y3 n3 t3 y4 n4 t4 y5 n5 t5 ty ).mem[k]?) fn.results.toList=some [.a (.sld 6 0 0 (4+4+n1+4+n2+4+n3+4+n4+4+n5) (4+4+n1+4+n2+4+n3+4+n4+4+n5)),.a (.v (.int .i64 0))]:=by kernel_rfl
theorem row:(e G y1 n1 t1 y2 n2 t2 y3 n3 t3 y4 n4 t4 y5 n5 t5 ty ).mem[6]? =some ⟨true,5,.run .u8 (putA [(n1,(y1.drop 0).take n1),(n2,(y2.drop 0).take n2),(n3,(y3.drop 0).take n3),(n4,(y4.drop 0).take n4),(n5,(y5.drop 0).take n5)] 4 (bq (0+0) (b4 ((5:Nat):Int)) 0 (List.replicate (4+4+n1+4+n2+4+n3+4+n4+4+n5) 0)))⟩:=by kernel_rfl
end
set_option maxHeartbeats 4000000 in
theorem holds (y1:List Int) (n1:Nat) (t1:TypeId) (y2:List Int) (n2:Nat) (t2:TypeId) (y3:List Int) (n3:Nat) (t3:TypeId) (y4:List Int) (n4:Nat) (t4:TypeId) (y5:List Int) (n5:Nat) (t5:TypeId) (ty:TypeId) (h1:y1.length=n1) (h2:y2.length=n2) (h3:y3.length=n3) (h4:y4.length=n4) (h5:y5.length=n5) (hT:4+4+n1+4+n2+4+n3+4+n4+4+n5≤1048576):Holds (c y1 n1 t1 y2 n2 t2 y3 n3 t3 y4 n4 t4 y5 n5 t5 ty ):=⟨by rw[jR _ (by omega) (by omega)]<;>omega,by rw[jR _ (by omega) (by omega)]<;>omega,decide_eq_false (by omega),by rw[jR _ (by omega) (by omega)]<;>omega,by rw[jR _ (by omega) (by omega)]<;>omega,by rw[jR _ (by omega) (by omega)]<;>omega,decide_eq_false (by omega),by rw[jR _ (by omega) (by omega)]<;>omega,by rw[jR _ (by omega) (by omega)]<;>omega,by rw[jR _ (by omega) (by omega)]<;>omega,decide_eq_false (by omega),by rw[jR _ (by omega) (by omega)]<;>omega,by rw[jR _ (by omega) (by omega)]<;>omega,by rw[jR _ (by omega) (by omega)]<;>omega,decide_eq_false (by omega),by rw[jR _ (by omega) (by omega)]<;>omega,by rw[jR _ (by omega) (by omega)]<;>omega,by rw[jR _ (by omega) (by omega)]<;>omega,decide_eq_false (by omega),by rw[jR _ (by omega) (by omega)]<;>omega,by decide,by omega,pO _ (by omega),by omega,by omega,by simp only[bE,List.length_replicate];omega,by omega,by omega,by simp only[bE,List.length_replicate];omega,by omega,by omega,by simp only[bE,List.length_replicate];omega,by omega,by omega,by simp only[bE,List.length_replicate];omega,by omega,by omega,by simp only[bE,List.length_replicate];omega,by omega,by omega,by simp only[bE,List.length_replicate];omega,by omega,by omega,by simp only[bE,List.length_replicate];omega,by omega,by omega,by simp only[bE,List.length_replicate];omega,by omega,by omega,by simp only[bE,List.length_replicate];omega,by omega,by omega,by simp only[bE,List.length_replicate];omega,by omega,by omega,by simp only[bE,List.length_replicate];omega,trivial⟩
theorem run {G:Glob} (y1:List Int) (n1:Nat) (t1:TypeId) (y2:List Int) (n2:Nat) (t2:TypeId) (y3:List Int) (n3:Nat) (t3:TypeId) (y4:List Int) (n4:Nat) (t4:TypeId) (y5:List Int) (n5:Nat) (t5:TypeId) (ty:TypeId) (h1:y1.length=n1) (h2:y2.length=n2) (h3:y3.length=n3) (h4:y4.length=n4) (h5:y5.length=n5) (hT:fC [y1,y2,y3,y4,y5]≤1048576):
  aK Tryz.prog G 6 body (aH fn [.o (.a (.slc 0 0 5 5))]) [⟨false,ty,.lit [.slg 1 n1,.slg 2 n2,.slg 3 n3,.slg 4 n4,.slg 5 n5]⟩,⟨false,t1,.pre .u8 y1⟩,⟨false,t2,.pre .u8 y2⟩,⟨false,t3,.pre .u8 y3⟩,⟨false,t4,.pre .u8 y4⟩,⟨false,t5,.pre .u8 y5⟩] (aN tys fn (bA (encRes [y1,y2,y3,y4,y5]) (.new 5 (.run .u8 (encB [y1,y2,y3,y4,y5]))))):=by
 have hE:fC [y1,y2,y3,y4,y5]=4+4+n1+4+n2+4+n3+4+n4+4+n5:=by simp only[fC,encL];omega
 have hr:=row (G:=G) y1 n1 t1 y2 n2 t2 y3 n3 t3 y4 n4 t4 y5 n5 t5 ty
 rw[dt y1 n1 h1,dt y2 n2 h2,dt y3 n3 h3,dt y4 n4 h4,dt y5 n5 h5] at hr
 refine Runs.aQ ah mixed (ex y1 n1 t1 y2 n2 t2 y3 n3 t3 y4 n4 t4 y5 n5 t5 ty ) (holds y1 n1 t1 y2 n2 t2 y3 n3 t3 y4 n4 t4 y5 n5 t5 ty h1 h2 h3 h4 h5 (by omega)) (aN.ret (res y1 n1 t1 y2 n2 t2 y3 n3 t3 y4 n4 t4 y5 n5 t5 ty ) ⟨6,?_,?_⟩)
 ·unfold encRes
  rw[hE]
  rfl
 ·have h:=put_all [y1,y2,y3,y4,y5]
  rw[hE] at h
  rw[hr,←h,←h1,←h2,←h3,←h4,←h5]
  rfl
theorem good (ls:List (List Int)):match (dh.new 5 (.run .u8 (encB ls))) with | .none=>(encRes ls).ids=[] | .new _ row=>row.ids=[] | .upd _ _=>False:=rfl
def D:Dec Tryz.prog LstA:=Dec.list Tryz.prog .u8 [true,true,true,true,true] encRes (fun ls=> .new 5 (.run .u8 (encB ls))) (fun ls=>[fC ls≤1048576]) good
noncomputable def con {G:Glob}:Con Tryz.prog G:=Con.hand ah 52 fn Tryz.func52 (by kernel_rfl) (c:=body) (by kernel_rfl) D
 (fun x hc hi=>by
  obtain⟨its,m,ty⟩:=x
  obtain⟨hs,hn,hy⟩:=hi
  have hp:=(aR hc).2.1
  simp only at hs hn hy hp
  obtain⟨a1,t1,rfl,q1⟩:=nE hs
  obtain⟨a2,t2,rfl,q2⟩:=nE q1
  obtain⟨a3,t3,rfl,q3⟩:=nE q2
  obtain⟨a4,t4,rfl,q4⟩:=nE q3
  obtain⟨a5,t5,rfl,q5⟩:=nE q4
  obtain rfl:=shp_nil q5
  have hn:m=5:=hn
  subst hn
  exact run a1.ys a1.n a1.ty a2.ys a2.n a2.ty a3.ys a3.n a3.ty a4.ys a4.n a4.ty a5.ys a5.n a5.ty ty (hy a1 (by simp[dR])) (hy a2 (by simp[dR])) (hy a3 (by simp[dR])) (hy a4 (by simp[dR])) (hy a5 (by simp[dR])) hp)
end k5
end enc
namespace renc
namespace k5
section
variable (y1:List Int) (n1:Nat) (t1:TypeId) (y2:List Int) (n2:Nat) (t2:TypeId) (y3:List Int) (n3:Nat) (t3:TypeId) (y4:List Int) (n4:Nat) (t4:TypeId) (y5:List Int) (n5:Nat) (t5:TypeId) (ty:TypeId)
def args:List Blk:=[⟨false,ty,.lit [.slg 1 n1,.slg 2 n2,.slg 3 n3,.slg 4 n4,.slg 5 n5]⟩,⟨false,t1,.pre .u8 y1⟩,⟨false,t2,.pre .u8 y2⟩,⟨false,t3,.pre .u8 y3⟩,⟨false,t4,.pre .u8 y4⟩,⟨false,t5,.pre .u8 y5⟩]
def aS:List Blk:=args y1 n1 t1 y2 n2 t2 y3 n3 t3 y4 n4 t4 y5 n5 t5 ty++[⟨true,5,.lit ((b4 5).map (aB .u8))⟩]
def mem (D:List Int) (lo:Nat) (hi:Option Nat):List Blk:=args y1 n1 t1 y2 n2 t2 y3 n3 t3 y4 n4 t4 y5 n5 t5 ty++[⟨true,5,.gro .u8 D lo hi⟩]
end
def M0:List (Option SV):=aJ 61 0 [(0,.o (.a (.slc 0 0 5 5))),(6,.o (.a (.slc 6 0 4 4)))]
def M1 (i:Int):List (Option SV):=aJ 61 0 [(0,.o (.a (.slc 0 0 5 5))),(6,.o (.a (.slc 6 0 4 4))),(41,.o (.a (.v (.int .i64 5)))),(42,.o (.a (.v (.int .i64 i))))]
def M2 (i:Int) (n:Nat):List (Option SV):=aJ 61 0 [(0,.o (.a (.slc 0 0 5 5))),(6,.o (.a (.slg 6 n))),(41,.o (.a (.v (.int .i64 5)))),(42,.o (.a (.v (.int .i64 i))))]
def N1 (i:Int):List (Option SV):=aJ 61 0 [(0,.o (.a (.slc 0 0 5 5))),(6,.o (.a (.slc 6 0 4 4))),(7,.o (.a (.v (.int .i64 i)))),(41,.o (.a (.v (.int .i64 5)))),(42,.o (.a (.v (.int .i64 i))))]
def N2 (i:Int) (n:Nat):List (Option SV):=aJ 61 0 [(0,.o (.a (.slc 0 0 5 5))),(6,.o (.a (.slg 6 n))),(7,.o (.a (.v (.int .i64 i)))),(41,.o (.a (.v (.int .i64 5)))),(42,.o (.a (.v (.int .i64 i))))]
def MZ (n:Nat):List (Option SV):=aJ 61 0 [(6,.o (.a (.slg 6 n)))]
section
variable (y1:List Int) (n1:Nat) (t1:TypeId) (y2:List Int) (n2:Nat) (t2:TypeId) (y3:List Int) (n3:Nat) (t3:TypeId) (y4:List Int) (n4:Nat) (t4:TypeId) (y5:List Int) (n5:Nat) (t5:TypeId) (ty:TypeId)
theorem jy:oI M0 (aS y1 n1 t1 y2 n2 t2 y3 n3 t3 y4 n4 t4 y5 n5 t5 ty):=by delta oI;kernel_rfl
theorem eT (i:Int):oI (M1 i) (aS y1 n1 t1 y2 n2 t2 y3 n3 t3 y4 n4 t4 y5 n5 t5 ty):=by delta oI;kernel_rfl
theorem idsN1 (i:Int):oI (N1 i) (aS y1 n1 t1 y2 n2 t2 y3 n3 t3 y4 n4 t4 y5 n5 t5 ty):=by delta oI;kernel_rfl
theorem fu (D:List Int) (n lo:Nat) (hi:Option Nat) (i:Int):oI (M2 i n) (mem y1 n1 t1 y2 n2 t2 y3 n3 t3 y4 n4 t4 y5 n5 t5 ty D lo hi):=by delta oI;kernel_rfl
theorem iG (D:List Int) (n lo:Nat) (hi:Option Nat) (i:Int):oI (N2 i n) (mem y1 n1 t1 y2 n2 t2 y3 n3 t3 y4 n4 t4 y5 n5 t5 ty D lo hi):=by delta oI;kernel_rfl
theorem idsZ (D:List Int) (n lo:Nat) (hi:Option Nat):oI (MZ n) (mem y1 n1 t1 y2 n2 t2 y3 n3 t3 y4 n4 t4 y5 n5 t5 ty D lo hi):=by delta oI;kernel_rfl
end
def c0 (y1:List Int) (n1:Nat) (t1:TypeId) (y2:List Int) (n2:Nat) (t2:TypeId) (y3:List Int) (n3:Nat) (t3:TypeId) (y4:List Int) (n4:Nat) (t4:TypeId) (y5:List Int) (n5:Nat) (t5:TypeId) (ty:TypeId):Cst:=[decide (((n1:Nat):Int)>1048576)=false,IntKind.i64.wrap (((4:Nat):Int)+4)=((4+4:Nat):Int),IntKind.i64.wrap (((4+4:Nat):Int)+((n1:Nat):Int))=((4+4+n1:Nat):Int),decide (((4+4+n1:Nat):Int)>1048576)=false,decide (((n2:Nat):Int)>1048576)=false,IntKind.i64.wrap (((4+4+n1:Nat):Int)+4)=((4+4+n1+4:Nat):Int),IntKind.i64.wrap (((4+4+n1+4:Nat):Int)+((n2:Nat):Int))=((4+4+n1+4+n2:Nat):Int),decide (((4+4+n1+4+n2:Nat):Int)>1048576)=false,decide (((n3:Nat):Int)>1048576)=false,IntKind.i64.wrap (((4+4+n1+4+n2:Nat):Int)+4)=((4+4+n1+4+n2+4:Nat):Int),IntKind.i64.wrap (((4+4+n1+4+n2+4:Nat):Int)+((n3:Nat):Int))=((4+4+n1+4+n2+4+n3:Nat):Int),decide (((4+4+n1+4+n2+4+n3:Nat):Int)>1048576)=false,decide (((n4:Nat):Int)>1048576)=false,IntKind.i64.wrap (((4+4+n1+4+n2+4+n3:Nat):Int)+4)=((4+4+n1+4+n2+4+n3+4:Nat):Int),IntKind.i64.wrap (((4+4+n1+4+n2+4+n3+4:Nat):Int)+((n4:Nat):Int))=((4+4+n1+4+n2+4+n3+4+n4:Nat):Int),decide (((4+4+n1+4+n2+4+n3+4+n4:Nat):Int)>1048576)=false,decide (((n5:Nat):Int)>1048576)=false,IntKind.i64.wrap (((4+4+n1+4+n2+4+n3+4+n4:Nat):Int)+4)=((4+4+n1+4+n2+4+n3+4+n4+4:Nat):Int),IntKind.i64.wrap (((4+4+n1+4+n2+4+n3+4+n4+4:Nat):Int)+((n5:Nat):Int))=((4+4+n1+4+n2+4+n3+4+n4+4+n5:Nat):Int),decide (((4+4+n1+4+n2+4+n3+4+n4+4+n5:Nat):Int)>1048576)=false,decide (((4+4+n1+4+n2+4+n3+4+n4+4+n5:Nat):Int)>1048576)=false]
theorem holds0 (y1:List Int) (n1:Nat) (t1:TypeId) (y2:List Int) (n2:Nat) (t2:TypeId) (y3:List Int) (n3:Nat) (t3:TypeId) (y4:List Int) (n4:Nat) (t4:TypeId) (y5:List Int) (n5:Nat) (t5:TypeId) (ty:TypeId) (hT:4+4+n1+4+n2+4+n3+4+n4+4+n5≤1048576):Holds (c0 y1 n1 t1 y2 n2 t2 y3 n3 t3 y4 n4 t4 y5 n5 t5 ty ):=⟨decide_eq_false (by omega),by rw[jR _ (by omega) (by omega)]<;>omega,by rw[jR _ (by omega) (by omega)]<;>omega,decide_eq_false (by omega),decide_eq_false (by omega),by rw[jR _ (by omega) (by omega)]<;>omega,by rw[jR _ (by omega) (by omega)]<;>omega,decide_eq_false (by omega),decide_eq_false (by omega),by rw[jR _ (by omega) (by omega)]<;>omega,by rw[jR _ (by omega) (by omega)]<;>omega,decide_eq_false (by omega),decide_eq_false (by omega),by rw[jR _ (by omega) (by omega)]<;>omega,by rw[jR _ (by omega) (by omega)]<;>omega,decide_eq_false (by omega),decide_eq_false (by omega),by rw[jR _ (by omega) (by omega)]<;>omega,by rw[jR _ (by omega) (by omega)]<;>omega,decide_eq_false (by omega),decide_eq_false (by omega),trivial⟩
section
variable {G:Glob} (y1:List Int) (n1:Nat) (t1:TypeId) (y2:List Int) (n2:Nat) (t2:TypeId) (y3:List Int) (n3:Nat) (t3:TypeId) (y4:List Int) (n4:Nat) (t4:TypeId) (y5:List Int) (n5:Nat) (t5:TypeId) (ty:TypeId)
theorem s0:oX (Γ (G:=G)) 200 (dU 5 body) (aH fn [.o (.a (.slc 0 0 5 5))]) (args y1 n1 t1 y2 n2 t2 y3 n3 t3 y4 n4 t4 y5 n5 t5 ty) [(18,[.b false,.b false,.b false,.b false,.b false]),(20,[.n ((4+4:Nat):Int),.n ((4+4+n1+4:Nat):Int),.n ((4+4+n1+4+n2+4:Nat):Int),.n ((4+4+n1+4+n2+4+n3+4:Nat):Int),.n ((4+4+n1+4+n2+4+n3+4+n4+4:Nat):Int)]),(26,[.n ((4+4+n1:Nat):Int),.n ((4+4+n1+4+n2:Nat):Int),.n ((4+4+n1+4+n2+4+n3:Nat):Int),.n ((4+4+n1+4+n2+4+n3+4+n4:Nat):Int),.n ((4+4+n1+4+n2+4+n3+4+n4+4+n5:Nat):Int)]),(28,[.b false,.b false,.b false,.b false,.b false]),(35,[.b false])] .normal M0 (aS y1 n1 t1 y2 n2 t2 y3 n3 t3 y4 n4 t4 y5 n5 t5 ty) (c0 y1 n1 t1 y2 n2 t2 y3 n3 t3 y4 n4 t4 y5 n5 t5 ty):=by delta oX;kernel_rfl
theorem a14 (g:Nat→SV):oX (Γ (G:=G)) 200 A14 (fill g 0 (M0)) (aS y1 n1 t1 y2 n2 t2 y3 n3 t3 y4 n4 t4 y5 n5 t5 ty) [] .normal (M1 0) (aS y1 n1 t1 y2 n2 t2 y3 n3 t3 y4 n4 t4 y5 n5 t5 ty) []:=by delta oX;kernel_rfl
theorem hd0 (g:Nat→SV):oX (Γ (G:=G)) 100 (dU 2 L) (fill g 0 (M1 0)) (aS y1 n1 t1 y2 n2 t2 y3 n3 t3 y4 n4 t4 y5 n5 t5 ty) [] .normal (M1 0) (aS y1 n1 t1 y2 n2 t2 y3 n3 t3 y4 n4 t4 y5 n5 t5 ty) []:=by delta oX;kernel_rfl
theorem x0 (g:Nat→SV):oX (Γ (G:=G)) 100 (dU 1 B3) (fill g 0 (M1 0)) (aS y1 n1 t1 y2 n2 t2 y3 n3 t3 y4 n4 t4 y5 n5 t5 ty) [] .normal (N1 0) (aS y1 n1 t1 y2 n2 t2 y3 n3 t3 y4 n4 t4 y5 n5 t5 ty) []:=by delta oX;kernel_rfl
theorem p0 (g:Nat→SV):rA [0,1,2,3,4,5,8] (N2 0 (4+4)) (dW (Γ (G:=G)) tys (opsOf R17).toList ((opsOf R17).toList.take 9) ⟨fill g 0 (N1 0),aS y1 n1 t1 y2 n2 t2 y3 n3 t3 y4 n4 t4 y5 n5 t5 ty ,[]⟩)=some ((live (N2 0 (4+4))).map (SV.ren (piF [0,1,2,3,4,5,8])),(N2 0 (4+4)).length,(mem y1 n1 t1 y2 n2 t2 y3 n3 t3 y4 n4 t4 y5 n5 t5 ty (b4 5++b4 ((n1:Nat):Int)) (4+4) none).map (fun b=>some (b.ren (piF [0,1,2,3,4,5,8]))),[0+4≤4,0+4≤4,4<4+4,Room Tryz.prog 5 (4+4)]):=by kernel_rfl
theorem r0 (D:List Int) (n:Nat) (g:Nat→SV):oF (mem y1 n1 t1 y2 n2 t2 y3 n3 t3 y4 n4 t4 y5 n5 t5 ty (D++((y1.drop 0).take n1)) (n+n1) none).length (N2 0 (n+n1)) (dW (Γ (G:=G)) tys (opsOf R18).toList ((opsOf R18).toList.take 7) ⟨fill g 0 (N2 0 n),mem y1 n1 t1 y2 n2 t2 y3 n3 t3 y4 n4 t4 y5 n5 t5 ty D (n+n1) none,[]⟩)=some (live (N2 0 (n+n1)),(N2 0 (n+n1)).length,mem y1 n1 t1 y2 n2 t2 y3 n3 t3 y4 n4 t4 y5 n5 t5 ty (D++((y1.drop 0).take n1)) (n+n1) none,[0+n1≤y1.length,n=D.length,n+n1≤n+n1]):=by kernel_rfl
theorem s0' (D:List Int) (n:Nat) (lo:Nat) (g:Nat→SV):rA [0,1,2,3,4,5,7] (N2 0 (n+n1)) (dW (Γ (G:=G)) tys (opsOf R18).toList ((opsOf R18).toList.take 7) ⟨fill g 0 (N2 0 n),mem y1 n1 t1 y2 n2 t2 y3 n3 t3 y4 n4 t4 y5 n5 t5 ty D lo (some (n+n1)),[]⟩)=some ((live (N2 0 (n+n1))).map (SV.ren (piF [0,1,2,3,4,5,7])),(N2 0 (n+n1)).length,(mem y1 n1 t1 y2 n2 t2 y3 n3 t3 y4 n4 t4 y5 n5 t5 ty (D++((y1.drop 0).take n1)) (n+n1) none).map (fun b=>some (b.ren (piF [0,1,2,3,4,5,7]))),[0+n1≤y1.length,n=D.length,n+n1≤n+n1,Room Tryz.prog 5 (n+n1)]):=by kernel_rfl
theorem e0 (D:List Int) (n:Nat) (lo:Nat) (g:Nat→SV):oX (Γ (G:=G)) 100 R19 (fill g 0 (N2 0 n)) (mem y1 n1 t1 y2 n2 t2 y3 n3 t3 y4 n4 t4 y5 n5 t5 ty D lo none) [] .normal (M2 1 n) (mem y1 n1 t1 y2 n2 t2 y3 n3 t3 y4 n4 t4 y5 n5 t5 ty D lo none) []:=by delta oX;kernel_rfl
theorem hd1 (D:List Int) (n:Nat) (lo:Nat) (g:Nat→SV):oX (Γ (G:=G)) 100 (dU 2 L) (fill g 0 (M2 1 n)) (mem y1 n1 t1 y2 n2 t2 y3 n3 t3 y4 n4 t4 y5 n5 t5 ty D lo none) [] .normal (M2 1 n) (mem y1 n1 t1 y2 n2 t2 y3 n3 t3 y4 n4 t4 y5 n5 t5 ty D lo none) []:=by delta oX;kernel_rfl
theorem x1 (D:List Int) (n:Nat) (lo:Nat) (g:Nat→SV):oX (Γ (G:=G)) 100 (dU 1 B3) (fill g 0 (M2 1 n)) (mem y1 n1 t1 y2 n2 t2 y3 n3 t3 y4 n4 t4 y5 n5 t5 ty D lo none) [] .normal (N2 1 n) (mem y1 n1 t1 y2 n2 t2 y3 n3 t3 y4 n4 t4 y5 n5 t5 ty D lo none) []:=by delta oX;kernel_rfl
theorem p1 (D:List Int) (n:Nat) (g:Nat→SV):oF (mem y1 n1 t1 y2 n2 t2 y3 n3 t3 y4 n4 t4 y5 n5 t5 ty (D++b4 ((n2:Nat):Int)) (n+4) none).length (N2 1 (n+4)) (dW (Γ (G:=G)) tys (opsOf R17).toList ((opsOf R17).toList.take 9) ⟨fill g 0 (N2 1 n),mem y1 n1 t1 y2 n2 t2 y3 n3 t3 y4 n4 t4 y5 n5 t5 ty D (n+4) none,[]⟩)=some (live (N2 1 (n+4)),(N2 1 (n+4)).length,mem y1 n1 t1 y2 n2 t2 y3 n3 t3 y4 n4 t4 y5 n5 t5 ty (D++b4 ((n2:Nat):Int)) (n+4) none,[0+4≤4,n=D.length,n+4≤n+4]):=by kernel_rfl
theorem q1 (D:List Int) (n:Nat) (lo:Nat) (g:Nat→SV):rA [0,1,2,3,4,5,8] (N2 1 (n+4)) (dW (Γ (G:=G)) tys (opsOf R17).toList ((opsOf R17).toList.take 9) ⟨fill g 0 (N2 1 n),mem y1 n1 t1 y2 n2 t2 y3 n3 t3 y4 n4 t4 y5 n5 t5 ty D lo (some (n+4)),[]⟩)=some ((live (N2 1 (n+4))).map (SV.ren (piF [0,1,2,3,4,5,8])),(N2 1 (n+4)).length,(mem y1 n1 t1 y2 n2 t2 y3 n3 t3 y4 n4 t4 y5 n5 t5 ty (D++b4 ((n2:Nat):Int)) (n+4) none).map (fun b=>some (b.ren (piF [0,1,2,3,4,5,8]))),[0+4≤4,n=D.length,n+4≤n+4,Room Tryz.prog 5 (n+4)]):=by kernel_rfl
theorem r1 (D:List Int) (n:Nat) (g:Nat→SV):oF (mem y1 n1 t1 y2 n2 t2 y3 n3 t3 y4 n4 t4 y5 n5 t5 ty (D++((y2.drop 0).take n2)) (n+n2) none).length (N2 1 (n+n2)) (dW (Γ (G:=G)) tys (opsOf R18).toList ((opsOf R18).toList.take 7) ⟨fill g 0 (N2 1 n),mem y1 n1 t1 y2 n2 t2 y3 n3 t3 y4 n4 t4 y5 n5 t5 ty D (n+n2) none,[]⟩)=some (live (N2 1 (n+n2)),(N2 1 (n+n2)).length,mem y1 n1 t1 y2 n2 t2 y3 n3 t3 y4 n4 t4 y5 n5 t5 ty (D++((y2.drop 0).take n2)) (n+n2) none,[0+n2≤y2.length,n=D.length,n+n2≤n+n2]):=by kernel_rfl
theorem s1' (D:List Int) (n:Nat) (lo:Nat) (g:Nat→SV):rA [0,1,2,3,4,5,7] (N2 1 (n+n2)) (dW (Γ (G:=G)) tys (opsOf R18).toList ((opsOf R18).toList.take 7) ⟨fill g 0 (N2 1 n),mem y1 n1 t1 y2 n2 t2 y3 n3 t3 y4 n4 t4 y5 n5 t5 ty D lo (some (n+n2)),[]⟩)=some ((live (N2 1 (n+n2))).map (SV.ren (piF [0,1,2,3,4,5,7])),(N2 1 (n+n2)).length,(mem y1 n1 t1 y2 n2 t2 y3 n3 t3 y4 n4 t4 y5 n5 t5 ty (D++((y2.drop 0).take n2)) (n+n2) none).map (fun b=>some (b.ren (piF [0,1,2,3,4,5,7]))),[0+n2≤y2.length,n=D.length,n+n2≤n+n2,Room Tryz.prog 5 (n+n2)]):=by kernel_rfl
theorem e1 (D:List Int) (n:Nat) (lo:Nat) (g:Nat→SV):oX (Γ (G:=G)) 100 R19 (fill g 0 (N2 1 n)) (mem y1 n1 t1 y2 n2 t2 y3 n3 t3 y4 n4 t4 y5 n5 t5 ty D lo none) [] .normal (M2 2 n) (mem y1 n1 t1 y2 n2 t2 y3 n3 t3 y4 n4 t4 y5 n5 t5 ty D lo none) []:=by delta oX;kernel_rfl
theorem hd2 (D:List Int) (n:Nat) (lo:Nat) (g:Nat→SV):oX (Γ (G:=G)) 100 (dU 2 L) (fill g 0 (M2 2 n)) (mem y1 n1 t1 y2 n2 t2 y3 n3 t3 y4 n4 t4 y5 n5 t5 ty D lo none) [] .normal (M2 2 n) (mem y1 n1 t1 y2 n2 t2 y3 n3 t3 y4 n4 t4 y5 n5 t5 ty D lo none) []:=by delta oX;kernel_rfl
theorem x2 (D:List Int) (n:Nat) (lo:Nat) (g:Nat→SV):oX (Γ (G:=G)) 100 (dU 1 B3) (fill g 0 (M2 2 n)) (mem y1 n1 t1 y2 n2 t2 y3 n3 t3 y4 n4 t4 y5 n5 t5 ty D lo none) [] .normal (N2 2 n) (mem y1 n1 t1 y2 n2 t2 y3 n3 t3 y4 n4 t4 y5 n5 t5 ty D lo none) []:=by delta oX;kernel_rfl
theorem p2 (D:List Int) (n:Nat) (g:Nat→SV):oF (mem y1 n1 t1 y2 n2 t2 y3 n3 t3 y4 n4 t4 y5 n5 t5 ty (D++b4 ((n3:Nat):Int)) (n+4) none).length (N2 2 (n+4)) (dW (Γ (G:=G)) tys (opsOf R17).toList ((opsOf R17).toList.take 9) ⟨fill g 0 (N2 2 n),mem y1 n1 t1 y2 n2 t2 y3 n3 t3 y4 n4 t4 y5 n5 t5 ty D (n+4) none,[]⟩)=some (live (N2 2 (n+4)),(N2 2 (n+4)).length,mem y1 n1 t1 y2 n2 t2 y3 n3 t3 y4 n4 t4 y5 n5 t5 ty (D++b4 ((n3:Nat):Int)) (n+4) none,[0+4≤4,n=D.length,n+4≤n+4]):=by kernel_rfl
theorem q2 (D:List Int) (n:Nat) (lo:Nat) (g:Nat→SV):rA [0,1,2,3,4,5,8] (N2 2 (n+4)) (dW (Γ (G:=G)) tys (opsOf R17).toList ((opsOf R17).toList.take 9) ⟨fill g 0 (N2 2 n),mem y1 n1 t1 y2 n2 t2 y3 n3 t3 y4 n4 t4 y5 n5 t5 ty D lo (some (n+4)),[]⟩)=some ((live (N2 2 (n+4))).map (SV.ren (piF [0,1,2,3,4,5,8])),(N2 2 (n+4)).length,(mem y1 n1 t1 y2 n2 t2 y3 n3 t3 y4 n4 t4 y5 n5 t5 ty (D++b4 ((n3:Nat):Int)) (n+4) none).map (fun b=>some (b.ren (piF [0,1,2,3,4,5,8]))),[0+4≤4,n=D.length,n+4≤n+4,Room Tryz.prog 5 (n+4)]):=by kernel_rfl
theorem r2 (D:List Int) (n:Nat) (g:Nat→SV):oF (mem y1 n1 t1 y2 n2 t2 y3 n3 t3 y4 n4 t4 y5 n5 t5 ty (D++((y3.drop 0).take n3)) (n+n3) none).length (N2 2 (n+n3)) (dW (Γ (G:=G)) tys (opsOf R18).toList ((opsOf R18).toList.take 7) ⟨fill g 0 (N2 2 n),mem y1 n1 t1 y2 n2 t2 y3 n3 t3 y4 n4 t4 y5 n5 t5 ty D (n+n3) none,[]⟩)=some (live (N2 2 (n+n3)),(N2 2 (n+n3)).length,mem y1 n1 t1 y2 n2 t2 y3 n3 t3 y4 n4 t4 y5 n5 t5 ty (D++((y3.drop 0).take n3)) (n+n3) none,[0+n3≤y3.length,n=D.length,n+n3≤n+n3]):=by kernel_rfl
theorem s2' (D:List Int) (n:Nat) (lo:Nat) (g:Nat→SV):rA [0,1,2,3,4,5,7] (N2 2 (n+n3)) (dW (Γ (G:=G)) tys (opsOf R18).toList ((opsOf R18).toList.take 7) ⟨fill g 0 (N2 2 n),mem y1 n1 t1 y2 n2 t2 y3 n3 t3 y4 n4 t4 y5 n5 t5 ty D lo (some (n+n3)),[]⟩)=some ((live (N2 2 (n+n3))).map (SV.ren (piF [0,1,2,3,4,5,7])),(N2 2 (n+n3)).length,(mem y1 n1 t1 y2 n2 t2 y3 n3 t3 y4 n4 t4 y5 n5 t5 ty (D++((y3.drop 0).take n3)) (n+n3) none).map (fun b=>some (b.ren (piF [0,1,2,3,4,5,7]))),[0+n3≤y3.length,n=D.length,n+n3≤n+n3,Room Tryz.prog 5 (n+n3)]):=by kernel_rfl
theorem e2 (D:List Int) (n:Nat) (lo:Nat) (g:Nat→SV):oX (Γ (G:=G)) 100 R19 (fill g 0 (N2 2 n)) (mem y1 n1 t1 y2 n2 t2 y3 n3 t3 y4 n4 t4 y5 n5 t5 ty D lo none) [] .normal (M2 3 n) (mem y1 n1 t1 y2 n2 t2 y3 n3 t3 y4 n4 t4 y5 n5 t5 ty D lo none) []:=by delta oX;kernel_rfl
theorem hd3 (D:List Int) (n:Nat) (lo:Nat) (g:Nat→SV):oX (Γ (G:=G)) 100 (dU 2 L) (fill g 0 (M2 3 n)) (mem y1 n1 t1 y2 n2 t2 y3 n3 t3 y4 n4 t4 y5 n5 t5 ty D lo none) [] .normal (M2 3 n) (mem y1 n1 t1 y2 n2 t2 y3 n3 t3 y4 n4 t4 y5 n5 t5 ty D lo none) []:=by delta oX;kernel_rfl
theorem x3 (D:List Int) (n:Nat) (lo:Nat) (g:Nat→SV):oX (Γ (G:=G)) 100 (dU 1 B3) (fill g 0 (M2 3 n)) (mem y1 n1 t1 y2 n2 t2 y3 n3 t3 y4 n4 t4 y5 n5 t5 ty D lo none) [] .normal (N2 3 n) (mem y1 n1 t1 y2 n2 t2 y3 n3 t3 y4 n4 t4 y5 n5 t5 ty D lo none) []:=by delta oX;kernel_rfl
theorem p3 (D:List Int) (n:Nat) (g:Nat→SV):oF (mem y1 n1 t1 y2 n2 t2 y3 n3 t3 y4 n4 t4 y5 n5 t5 ty (D++b4 ((n4:Nat):Int)) (n+4) none).length (N2 3 (n+4)) (dW (Γ (G:=G)) tys (opsOf R17).toList ((opsOf R17).toList.take 9) ⟨fill g 0 (N2 3 n),mem y1 n1 t1 y2 n2 t2 y3 n3 t3 y4 n4 t4 y5 n5 t5 ty D (n+4) none,[]⟩)=some (live (N2 3 (n+4)),(N2 3 (n+4)).length,mem y1 n1 t1 y2 n2 t2 y3 n3 t3 y4 n4 t4 y5 n5 t5 ty (D++b4 ((n4:Nat):Int)) (n+4) none,[0+4≤4,n=D.length,n+4≤n+4]):=by kernel_rfl
theorem q3 (D:List Int) (n:Nat) (lo:Nat) (g:Nat→SV):rA [0,1,2,3,4,5,8] (N2 3 (n+4)) (dW (Γ (G:=G)) tys (opsOf R17).toList ((opsOf R17).toList.take 9) ⟨fill g 0 (N2 3 n),mem y1 n1 t1 y2 n2 t2 y3 n3 t3 y4 n4 t4 y5 n5 t5 ty D lo (some (n+4)),[]⟩)=some ((live (N2 3 (n+4))).map (SV.ren (piF [0,1,2,3,4,5,8])),(N2 3 (n+4)).length,(mem y1 n1 t1 y2 n2 t2 y3 n3 t3 y4 n4 t4 y5 n5 t5 ty (D++b4 ((n4:Nat):Int)) (n+4) none).map (fun b=>some (b.ren (piF [0,1,2,3,4,5,8]))),[0+4≤4,n=D.length,n+4≤n+4,Room Tryz.prog 5 (n+4)]):=by kernel_rfl
theorem r3 (D:List Int) (n:Nat) (g:Nat→SV):oF (mem y1 n1 t1 y2 n2 t2 y3 n3 t3 y4 n4 t4 y5 n5 t5 ty (D++((y4.drop 0).take n4)) (n+n4) none).length (N2 3 (n+n4)) (dW (Γ (G:=G)) tys (opsOf R18).toList ((opsOf R18).toList.take 7) ⟨fill g 0 (N2 3 n),mem y1 n1 t1 y2 n2 t2 y3 n3 t3 y4 n4 t4 y5 n5 t5 ty D (n+n4) none,[]⟩)=some (live (N2 3 (n+n4)),(N2 3 (n+n4)).length,mem y1 n1 t1 y2 n2 t2 y3 n3 t3 y4 n4 t4 y5 n5 t5 ty (D++((y4.drop 0).take n4)) (n+n4) none,[0+n4≤y4.length,n=D.length,n+n4≤n+n4]):=by kernel_rfl
theorem s3' (D:List Int) (n:Nat) (lo:Nat) (g:Nat→SV):rA [0,1,2,3,4,5,7] (N2 3 (n+n4)) (dW (Γ (G:=G)) tys (opsOf R18).toList ((opsOf R18).toList.take 7) ⟨fill g 0 (N2 3 n),mem y1 n1 t1 y2 n2 t2 y3 n3 t3 y4 n4 t4 y5 n5 t5 ty D lo (some (n+n4)),[]⟩)=some ((live (N2 3 (n+n4))).map (SV.ren (piF [0,1,2,3,4,5,7])),(N2 3 (n+n4)).length,(mem y1 n1 t1 y2 n2 t2 y3 n3 t3 y4 n4 t4 y5 n5 t5 ty (D++((y4.drop 0).take n4)) (n+n4) none).map (fun b=>some (b.ren (piF [0,1,2,3,4,5,7]))),[0+n4≤y4.length,n=D.length,n+n4≤n+n4,Room Tryz.prog 5 (n+n4)]):=by kernel_rfl
theorem e3 (D:List Int) (n:Nat) (lo:Nat) (g:Nat→SV):oX (Γ (G:=G)) 100 R19 (fill g 0 (N2 3 n)) (mem y1 n1 t1 y2 n2 t2 y3 n3 t3 y4 n4 t4 y5 n5 t5 ty D lo none) [] .normal (M2 4 n) (mem y1 n1 t1 y2 n2 t2 y3 n3 t3 y4 n4 t4 y5 n5 t5 ty D lo none) []:=by delta oX;kernel_rfl
theorem hd4 (D:List Int) (n:Nat) (lo:Nat) (g:Nat→SV):oX (Γ (G:=G)) 100 (dU 2 L) (fill g 0 (M2 4 n)) (mem y1 n1 t1 y2 n2 t2 y3 n3 t3 y4 n4 t4 y5 n5 t5 ty D lo none) [] .normal (M2 4 n) (mem y1 n1 t1 y2 n2 t2 y3 n3 t3 y4 n4 t4 y5 n5 t5 ty D lo none) []:=by delta oX;kernel_rfl
theorem x4 (D:List Int) (n:Nat) (lo:Nat) (g:Nat→SV):oX (Γ (G:=G)) 100 (dU 1 B3) (fill g 0 (M2 4 n)) (mem y1 n1 t1 y2 n2 t2 y3 n3 t3 y4 n4 t4 y5 n5 t5 ty D lo none) [] .normal (N2 4 n) (mem y1 n1 t1 y2 n2 t2 y3 n3 t3 y4 n4 t4 y5 n5 t5 ty D lo none) []:=by delta oX;kernel_rfl
theorem p4 (D:List Int) (n:Nat) (g:Nat→SV):oF (mem y1 n1 t1 y2 n2 t2 y3 n3 t3 y4 n4 t4 y5 n5 t5 ty (D++b4 ((n5:Nat):Int)) (n+4) none).length (N2 4 (n+4)) (dW (Γ (G:=G)) tys (opsOf R17).toList ((opsOf R17).toList.take 9) ⟨fill g 0 (N2 4 n),mem y1 n1 t1 y2 n2 t2 y3 n3 t3 y4 n4 t4 y5 n5 t5 ty D (n+4) none,[]⟩)=some (live (N2 4 (n+4)),(N2 4 (n+4)).length,mem y1 n1 t1 y2 n2 t2 y3 n3 t3 y4 n4 t4 y5 n5 t5 ty (D++b4 ((n5:Nat):Int)) (n+4) none,[0+4≤4,n=D.length,n+4≤n+4]):=by kernel_rfl
theorem q4 (D:List Int) (n:Nat) (lo:Nat) (g:Nat→SV):rA [0,1,2,3,4,5,8] (N2 4 (n+4)) (dW (Γ (G:=G)) tys (opsOf R17).toList ((opsOf R17).toList.take 9) ⟨fill g 0 (N2 4 n),mem y1 n1 t1 y2 n2 t2 y3 n3 t3 y4 n4 t4 y5 n5 t5 ty D lo (some (n+4)),[]⟩)=some ((live (N2 4 (n+4))).map (SV.ren (piF [0,1,2,3,4,5,8])),(N2 4 (n+4)).length,(mem y1 n1 t1 y2 n2 t2 y3 n3 t3 y4 n4 t4 y5 n5 t5 ty (D++b4 ((n5:Nat):Int)) (n+4) none).map (fun b=>some (b.ren (piF [0,1,2,3,4,5,8]))),[0+4≤4,n=D.length,n+4≤n+4,Room Tryz.prog 5 (n+4)]):=by kernel_rfl
theorem r4 (D:List Int) (n:Nat) (g:Nat→SV):oF (mem y1 n1 t1 y2 n2 t2 y3 n3 t3 y4 n4 t4 y5 n5 t5 ty (D++((y5.drop 0).take n5)) (n+n5) none).length (N2 4 (n+n5)) (dW (Γ (G:=G)) tys (opsOf R18).toList ((opsOf R18).toList.take 7) ⟨fill g 0 (N2 4 n),mem y1 n1 t1 y2 n2 t2 y3 n3 t3 y4 n4 t4 y5 n5 t5 ty D (n+n5) none,[]⟩)=some (live (N2 4 (n+n5)),(N2 4 (n+n5)).length,mem y1 n1 t1 y2 n2 t2 y3 n3 t3 y4 n4 t4 y5 n5 t5 ty (D++((y5.drop 0).take n5)) (n+n5) none,[0+n5≤y5.length,n=D.length,n+n5≤n+n5]):=by kernel_rfl
theorem s4' (D:List Int) (n:Nat) (lo:Nat) (g:Nat→SV):rA [0,1,2,3,4,5,7] (N2 4 (n+n5)) (dW (Γ (G:=G)) tys (opsOf R18).toList ((opsOf R18).toList.take 7) ⟨fill g 0 (N2 4 n),mem y1 n1 t1 y2 n2 t2 y3 n3 t3 y4 n4 t4 y5 n5 t5 ty D lo (some (n+n5)),[]⟩)=some ((live (N2 4 (n+n5))).map (SV.ren (piF [0,1,2,3,4,5,7])),(N2 4 (n+n5)).length,(mem y1 n1 t1 y2 n2 t2 y3 n3 t3 y4 n4 t4 y5 n5 t5 ty (D++((y5.drop 0).take n5)) (n+n5) none).map (fun b=>some (b.ren (piF [0,1,2,3,4,5,7]))),[0+n5≤y5.length,n=D.length,n+n5≤n+n5,Room Tryz.prog 5 (n+n5)]):=by kernel_rfl
theorem e4 (D:List Int) (n:Nat) (lo:Nat) (g:Nat→SV):oX (Γ (G:=G)) 100 R19 (fill g 0 (N2 4 n)) (mem y1 n1 t1 y2 n2 t2 y3 n3 t3 y4 n4 t4 y5 n5 t5 ty D lo none) [] .normal (M2 5 n) (mem y1 n1 t1 y2 n2 t2 y3 n3 t3 y4 n4 t4 y5 n5 t5 ty D lo none) []:=by delta oX;kernel_rfl
theorem u0 {Post:Ex→List SV→List Blk→Prop} (hp:∀g,Post .normal (fill g 0 (N2 0 (4+4))) (mem y1 n1 t1 y2 n2 t2 y3 n3 t3 y4 n4 t4 y5 n5 t5 ty (b4 5++b4 ((n1:Nat):Int)) (4+4) none)) (g:Nat→SV):
  bg Tryz.prog G 6 (opsOf R17) (opsOf R17).toList (fill g 0 (N1 0)) (aS y1 n1 t1 y2 n2 t2 y3 n3 t3 y4 n4 t4 y5 n5 t5 ty ) Post:=by
 refine bg.bW ah 9 _ (p0 y1 n1 t1 y2 n2 t2 y3 n3 t3 y4 n4 t4 y5 n5 t5 ty g) ⟨by omega,by omega,by omega,pO _ (by omega),trivial⟩ (iG y1 n1 t1 y2 n2 t2 y3 n3 t3 y4 n4 t4 y5 n5 t5 ty _ _ _ _ _) rfl fun g=> ?_
 rw[nil17]
 exact bg.nil (hp g)
theorem v0 (D:List Int) (n lo:Nat) (hD:n=D.length) (hn:n≤1048576) (hy:y1.length=n1) (hm:n1≤1048576) {Post:Ex→List SV→List Blk→Prop} (hp:∀g,Post .normal (fill g 0 (N2 0 (n+n1))) (mem y1 n1 t1 y2 n2 t2 y3 n3 t3 y4 n4 t4 y5 n5 t5 ty (D++((y1.drop 0).take n1)) (n+n1) none)) (g:Nat→SV):
  bg Tryz.prog G 6 (opsOf R18) (opsOf R18).toList (fill g 0 (N2 0 n)) (mem y1 n1 t1 y2 n2 t2 y3 n3 t3 y4 n4 t4 y5 n5 t5 ty D lo none) Post:=by
 refine bg.room 6 (n+n1) (own:=true) (ty:=5) (kd:= .u8) (xs:=D) (lo:=lo) rfl ?_ ?_
 ·refine bg.au ah 7 (r0 y1 n1 t1 y2 n2 t2 y3 n3 t3 y4 n4 t4 y5 n5 t5 ty D n g) ⟨by omega,hD,by omega,trivial⟩ (iG y1 n1 t1 y2 n2 t2 y3 n3 t3 y4 n4 t4 y5 n5 t5 ty _ _ _ _ _) rfl fun g=> ?_
  rw[nil18]
  exact bg.nil (hp g)
 ·refine bg.bW ah 7 _ (s0' y1 n1 t1 y2 n2 t2 y3 n3 t3 y4 n4 t4 y5 n5 t5 ty D n lo g) ⟨by omega,hD,by omega,pO _ (by omega),trivial⟩ (iG y1 n1 t1 y2 n2 t2 y3 n3 t3 y4 n4 t4 y5 n5 t5 ty _ _ _ _ _) rfl fun g=> ?_
  rw[nil18]
  exact bg.nil (hp g)
theorem u1 (D:List Int) (n lo:Nat) (hD:n=D.length) (hn:n≤1048576) {Post:Ex→List SV→List Blk→Prop} (hp:∀g,Post .normal (fill g 0 (N2 1 (n+4))) (mem y1 n1 t1 y2 n2 t2 y3 n3 t3 y4 n4 t4 y5 n5 t5 ty (D++b4 ((n2:Nat):Int)) (n+4) none)) (g:Nat→SV):
  bg Tryz.prog G 6 (opsOf R17) (opsOf R17).toList (fill g 0 (N2 1 n)) (mem y1 n1 t1 y2 n2 t2 y3 n3 t3 y4 n4 t4 y5 n5 t5 ty D lo none) Post:=by
 refine bg.room 6 (n+4) (own:=true) (ty:=5) (kd:= .u8) (xs:=D) (lo:=lo) rfl ?_ ?_
 ·refine bg.au ah 9 (p1 y1 n1 t1 y2 n2 t2 y3 n3 t3 y4 n4 t4 y5 n5 t5 ty D n g) ⟨by omega,hD,by omega,trivial⟩ (iG y1 n1 t1 y2 n2 t2 y3 n3 t3 y4 n4 t4 y5 n5 t5 ty _ _ _ _ _) rfl fun g=> ?_
  rw[nil17]
  exact bg.nil (hp g)
 ·refine bg.bW ah 9 _ (q1 y1 n1 t1 y2 n2 t2 y3 n3 t3 y4 n4 t4 y5 n5 t5 ty D n lo g) ⟨by omega,hD,by omega,pO _ (by omega),trivial⟩ (iG y1 n1 t1 y2 n2 t2 y3 n3 t3 y4 n4 t4 y5 n5 t5 ty _ _ _ _ _) rfl fun g=> ?_
  rw[nil17]
  exact bg.nil (hp g)
theorem v1 (D:List Int) (n lo:Nat) (hD:n=D.length) (hn:n≤1048576) (hy:y2.length=n2) (hm:n2≤1048576) {Post:Ex→List SV→List Blk→Prop} (hp:∀g,Post .normal (fill g 0 (N2 1 (n+n2))) (mem y1 n1 t1 y2 n2 t2 y3 n3 t3 y4 n4 t4 y5 n5 t5 ty (D++((y2.drop 0).take n2)) (n+n2) none)) (g:Nat→SV):
  bg Tryz.prog G 6 (opsOf R18) (opsOf R18).toList (fill g 0 (N2 1 n)) (mem y1 n1 t1 y2 n2 t2 y3 n3 t3 y4 n4 t4 y5 n5 t5 ty D lo none) Post:=by
 refine bg.room 6 (n+n2) (own:=true) (ty:=5) (kd:= .u8) (xs:=D) (lo:=lo) rfl ?_ ?_
 ·refine bg.au ah 7 (r1 y1 n1 t1 y2 n2 t2 y3 n3 t3 y4 n4 t4 y5 n5 t5 ty D n g) ⟨by omega,hD,by omega,trivial⟩ (iG y1 n1 t1 y2 n2 t2 y3 n3 t3 y4 n4 t4 y5 n5 t5 ty _ _ _ _ _) rfl fun g=> ?_
  rw[nil18]
  exact bg.nil (hp g)
 ·refine bg.bW ah 7 _ (s1' y1 n1 t1 y2 n2 t2 y3 n3 t3 y4 n4 t4 y5 n5 t5 ty D n lo g) ⟨by omega,hD,by omega,pO _ (by omega),trivial⟩ (iG y1 n1 t1 y2 n2 t2 y3 n3 t3 y4 n4 t4 y5 n5 t5 ty _ _ _ _ _) rfl fun g=> ?_
  rw[nil18]
  exact bg.nil (hp g)
theorem u2 (D:List Int) (n lo:Nat) (hD:n=D.length) (hn:n≤1048576) {Post:Ex→List SV→List Blk→Prop} (hp:∀g,Post .normal (fill g 0 (N2 2 (n+4))) (mem y1 n1 t1 y2 n2 t2 y3 n3 t3 y4 n4 t4 y5 n5 t5 ty (D++b4 ((n3:Nat):Int)) (n+4) none)) (g:Nat→SV):
  bg Tryz.prog G 6 (opsOf R17) (opsOf R17).toList (fill g 0 (N2 2 n)) (mem y1 n1 t1 y2 n2 t2 y3 n3 t3 y4 n4 t4 y5 n5 t5 ty D lo none) Post:=by
 refine bg.room 6 (n+4) (own:=true) (ty:=5) (kd:= .u8) (xs:=D) (lo:=lo) rfl ?_ ?_
 ·refine bg.au ah 9 (p2 y1 n1 t1 y2 n2 t2 y3 n3 t3 y4 n4 t4 y5 n5 t5 ty D n g) ⟨by omega,hD,by omega,trivial⟩ (iG y1 n1 t1 y2 n2 t2 y3 n3 t3 y4 n4 t4 y5 n5 t5 ty _ _ _ _ _) rfl fun g=> ?_
  rw[nil17]
  exact bg.nil (hp g)
 ·refine bg.bW ah 9 _ (q2 y1 n1 t1 y2 n2 t2 y3 n3 t3 y4 n4 t4 y5 n5 t5 ty D n lo g) ⟨by omega,hD,by omega,pO _ (by omega),trivial⟩ (iG y1 n1 t1 y2 n2 t2 y3 n3 t3 y4 n4 t4 y5 n5 t5 ty _ _ _ _ _) rfl fun g=> ?_
  rw[nil17]
  exact bg.nil (hp g)
theorem v2 (D:List Int) (n lo:Nat) (hD:n=D.length) (hn:n≤1048576) (hy:y3.length=n3) (hm:n3≤1048576) {Post:Ex→List SV→List Blk→Prop} (hp:∀g,Post .normal (fill g 0 (N2 2 (n+n3))) (mem y1 n1 t1 y2 n2 t2 y3 n3 t3 y4 n4 t4 y5 n5 t5 ty (D++((y3.drop 0).take n3)) (n+n3) none)) (g:Nat→SV):
  bg Tryz.prog G 6 (opsOf R18) (opsOf R18).toList (fill g 0 (N2 2 n)) (mem y1 n1 t1 y2 n2 t2 y3 n3 t3 y4 n4 t4 y5 n5 t5 ty D lo none) Post:=by
 refine bg.room 6 (n+n3) (own:=true) (ty:=5) (kd:= .u8) (xs:=D) (lo:=lo) rfl ?_ ?_
 ·refine bg.au ah 7 (r2 y1 n1 t1 y2 n2 t2 y3 n3 t3 y4 n4 t4 y5 n5 t5 ty D n g) ⟨by omega,hD,by omega,trivial⟩ (iG y1 n1 t1 y2 n2 t2 y3 n3 t3 y4 n4 t4 y5 n5 t5 ty _ _ _ _ _) rfl fun g=> ?_
  rw[nil18]
  exact bg.nil (hp g)
 ·refine bg.bW ah 7 _ (s2' y1 n1 t1 y2 n2 t2 y3 n3 t3 y4 n4 t4 y5 n5 t5 ty D n lo g) ⟨by omega,hD,by omega,pO _ (by omega),trivial⟩ (iG y1 n1 t1 y2 n2 t2 y3 n3 t3 y4 n4 t4 y5 n5 t5 ty _ _ _ _ _) rfl fun g=> ?_
  rw[nil18]
  exact bg.nil (hp g)
theorem u3 (D:List Int) (n lo:Nat) (hD:n=D.length) (hn:n≤1048576) {Post:Ex→List SV→List Blk→Prop} (hp:∀g,Post .normal (fill g 0 (N2 3 (n+4))) (mem y1 n1 t1 y2 n2 t2 y3 n3 t3 y4 n4 t4 y5 n5 t5 ty (D++b4 ((n4:Nat):Int)) (n+4) none)) (g:Nat→SV):
  bg Tryz.prog G 6 (opsOf R17) (opsOf R17).toList (fill g 0 (N2 3 n)) (mem y1 n1 t1 y2 n2 t2 y3 n3 t3 y4 n4 t4 y5 n5 t5 ty D lo none) Post:=by
 refine bg.room 6 (n+4) (own:=true) (ty:=5) (kd:= .u8) (xs:=D) (lo:=lo) rfl ?_ ?_
 ·refine bg.au ah 9 (p3 y1 n1 t1 y2 n2 t2 y3 n3 t3 y4 n4 t4 y5 n5 t5 ty D n g) ⟨by omega,hD,by omega,trivial⟩ (iG y1 n1 t1 y2 n2 t2 y3 n3 t3 y4 n4 t4 y5 n5 t5 ty _ _ _ _ _) rfl fun g=> ?_
  rw[nil17]
  exact bg.nil (hp g)
 ·refine bg.bW ah 9 _ (q3 y1 n1 t1 y2 n2 t2 y3 n3 t3 y4 n4 t4 y5 n5 t5 ty D n lo g) ⟨by omega,hD,by omega,pO _ (by omega),trivial⟩ (iG y1 n1 t1 y2 n2 t2 y3 n3 t3 y4 n4 t4 y5 n5 t5 ty _ _ _ _ _) rfl fun g=> ?_
  rw[nil17]
  exact bg.nil (hp g)
theorem v3 (D:List Int) (n lo:Nat) (hD:n=D.length) (hn:n≤1048576) (hy:y4.length=n4) (hm:n4≤1048576) {Post:Ex→List SV→List Blk→Prop} (hp:∀g,Post .normal (fill g 0 (N2 3 (n+n4))) (mem y1 n1 t1 y2 n2 t2 y3 n3 t3 y4 n4 t4 y5 n5 t5 ty (D++((y4.drop 0).take n4)) (n+n4) none)) (g:Nat→SV):
  bg Tryz.prog G 6 (opsOf R18) (opsOf R18).toList (fill g 0 (N2 3 n)) (mem y1 n1 t1 y2 n2 t2 y3 n3 t3 y4 n4 t4 y5 n5 t5 ty D lo none) Post:=by
 refine bg.room 6 (n+n4) (own:=true) (ty:=5) (kd:= .u8) (xs:=D) (lo:=lo) rfl ?_ ?_
 ·refine bg.au ah 7 (r3 y1 n1 t1 y2 n2 t2 y3 n3 t3 y4 n4 t4 y5 n5 t5 ty D n g) ⟨by omega,hD,by omega,trivial⟩ (iG y1 n1 t1 y2 n2 t2 y3 n3 t3 y4 n4 t4 y5 n5 t5 ty _ _ _ _ _) rfl fun g=> ?_
  rw[nil18]
  exact bg.nil (hp g)
 ·refine bg.bW ah 7 _ (s3' y1 n1 t1 y2 n2 t2 y3 n3 t3 y4 n4 t4 y5 n5 t5 ty D n lo g) ⟨by omega,hD,by omega,pO _ (by omega),trivial⟩ (iG y1 n1 t1 y2 n2 t2 y3 n3 t3 y4 n4 t4 y5 n5 t5 ty _ _ _ _ _) rfl fun g=> ?_
  rw[nil18]
  exact bg.nil (hp g)
theorem u4 (D:List Int) (n lo:Nat) (hD:n=D.length) (hn:n≤1048576) {Post:Ex→List SV→List Blk→Prop} (hp:∀g,Post .normal (fill g 0 (N2 4 (n+4))) (mem y1 n1 t1 y2 n2 t2 y3 n3 t3 y4 n4 t4 y5 n5 t5 ty (D++b4 ((n5:Nat):Int)) (n+4) none)) (g:Nat→SV):
  bg Tryz.prog G 6 (opsOf R17) (opsOf R17).toList (fill g 0 (N2 4 n)) (mem y1 n1 t1 y2 n2 t2 y3 n3 t3 y4 n4 t4 y5 n5 t5 ty D lo none) Post:=by
 refine bg.room 6 (n+4) (own:=true) (ty:=5) (kd:= .u8) (xs:=D) (lo:=lo) rfl ?_ ?_
 ·refine bg.au ah 9 (p4 y1 n1 t1 y2 n2 t2 y3 n3 t3 y4 n4 t4 y5 n5 t5 ty D n g) ⟨by omega,hD,by omega,trivial⟩ (iG y1 n1 t1 y2 n2 t2 y3 n3 t3 y4 n4 t4 y5 n5 t5 ty _ _ _ _ _) rfl fun g=> ?_
  rw[nil17]
  exact bg.nil (hp g)
 ·refine bg.bW ah 9 _ (q4 y1 n1 t1 y2 n2 t2 y3 n3 t3 y4 n4 t4 y5 n5 t5 ty D n lo g) ⟨by omega,hD,by omega,pO _ (by omega),trivial⟩ (iG y1 n1 t1 y2 n2 t2 y3 n3 t3 y4 n4 t4 y5 n5 t5 ty _ _ _ _ _) rfl fun g=> ?_
  rw[nil17]
  exact bg.nil (hp g)
theorem v4 (D:List Int) (n lo:Nat) (hD:n=D.length) (hn:n≤1048576) (hy:y5.length=n5) (hm:n5≤1048576) {Post:Ex→List SV→List Blk→Prop} (hp:∀g,Post .normal (fill g 0 (N2 4 (n+n5))) (mem y1 n1 t1 y2 n2 t2 y3 n3 t3 y4 n4 t4 y5 n5 t5 ty (D++((y5.drop 0).take n5)) (n+n5) none)) (g:Nat→SV):
  bg Tryz.prog G 6 (opsOf R18) (opsOf R18).toList (fill g 0 (N2 4 n)) (mem y1 n1 t1 y2 n2 t2 y3 n3 t3 y4 n4 t4 y5 n5 t5 ty D lo none) Post:=by
 refine bg.room 6 (n+n5) (own:=true) (ty:=5) (kd:= .u8) (xs:=D) (lo:=lo) rfl ?_ ?_
 ·refine bg.au ah 7 (r4 y1 n1 t1 y2 n2 t2 y3 n3 t3 y4 n4 t4 y5 n5 t5 ty D n g) ⟨by omega,hD,by omega,trivial⟩ (iG y1 n1 t1 y2 n2 t2 y3 n3 t3 y4 n4 t4 y5 n5 t5 ty _ _ _ _ _) rfl fun g=> ?_
  rw[nil18]
  exact bg.nil (hp g)
 ·refine bg.bW ah 7 _ (s4' y1 n1 t1 y2 n2 t2 y3 n3 t3 y4 n4 t4 y5 n5 t5 ty D n lo g) ⟨by omega,hD,by omega,pO _ (by omega),trivial⟩ (iG y1 n1 t1 y2 n2 t2 y3 n3 t3 y4 n4 t4 y5 n5 t5 ty _ _ _ _ _) rfl fun g=> ?_
  rw[nil18]
  exact bg.nil (hp g)
theorem hz (D:List Int) (n lo:Nat) (g:Nat→SV):oX (Γ (G:=G)) 100 L (fill g 0 (M2 5 n)) (mem y1 n1 t1 y2 n2 t2 y3 n3 t3 y4 n4 t4 y5 n5 t5 ty D lo none) [] (.exit 2) (MZ n) (mem y1 n1 t1 y2 n2 t2 y3 n3 t3 y4 n4 t4 y5 n5 t5 ty D lo none) []:=by delta oX;kernel_rfl
end
noncomputable def fin (G:Glob) (y1:List Int) (n1:Nat) (t1:TypeId) (y2:List Int) (n2:Nat) (t2:TypeId) (y3:List Int) (n3:Nat) (t3:TypeId) (y4:List Int) (n4:Nat) (t4:TypeId) (y5:List Int) (n5:Nat) (t5:TypeId) (ty:TypeId) (D:List Int) (n lo:Nat) (g:Nat→SV):St:=dz (Γ (G:=G)) tys 100 renc.D ⟨fill g 0 (MZ n),mem y1 n1 t1 y2 n2 t2 y3 n3 t3 y4 n4 t4 y5 n5 t5 ty D lo none,[]⟩
section
variable {G:Glob} (y1:List Int) (n1:Nat) (t1:TypeId) (y2:List Int) (n2:Nat) (t2:TypeId) (y3:List Int) (n3:Nat) (t3:TypeId) (y4:List Int) (n4:Nat) (t4:TypeId) (y5:List Int) (n5:Nat) (t5:TypeId) (ty:TypeId) (D:List Int) (n lo:Nat) (g:Nat→SV)
theorem d:exec (Γ (G:=G)) tys 100 renc.D ⟨fill g 0 (MZ n),mem y1 n1 t1 y2 n2 t2 y3 n3 t3 y4 n4 t4 y5 n5 t5 ty D lo none,[]⟩=some (.ret,⟨(fin G y1 n1 t1 y2 n2 t2 y3 n3 t3 y4 n4 t4 y5 n5 t5 ty D n lo g).tm,(fin G y1 n1 t1 y2 n2 t2 y3 n3 t3 y4 n4 t4 y5 n5 t5 ty D n lo g).mem,[]⟩,[]):=by kernel_rfl
theorem res:eRes tys (fin G y1 n1 t1 y2 n2 t2 y3 n3 t3 y4 n4 t4 y5 n5 t5 ty D n lo g).tm (fun k=>(fin G y1 n1 t1 y2 n2 t2 y3 n3 t3 y4 n4 t4 y5 n5 t5 ty D n lo g).mem[k]?) fn.results.toList=some [.a (.slg 6 n),.a (.v (.int .i64 0))]:=by kernel_rfl
theorem row:(fin G y1 n1 t1 y2 n2 t2 y3 n3 t3 y4 n4 t4 y5 n5 t5 ty D n lo g).mem[6]? =some ⟨true,5,.gro .u8 D lo none⟩:=by kernel_rfl
end
def Mx (n1:Nat) (n2:Nat) (n3:Nat) (n4:Nat) (n5:Nat):Nat→List (Option SV)
 | 0=>M1 0
 | 1=>M2 1 (4+4+n1)
 | 2=>M2 2 (4+4+n1+4+n2)
 | 3=>M2 3 (4+4+n1+4+n2+4+n3)
 | 4=>M2 4 (4+4+n1+4+n2+4+n3+4+n4)
 | _=>M2 5 (4+4+n1+4+n2+4+n3+4+n4+4+n5)
def Bx (y1:List Int) (n1:Nat) (t1:TypeId) (y2:List Int) (n2:Nat) (t2:TypeId) (y3:List Int) (n3:Nat) (t3:TypeId) (y4:List Int) (n4:Nat) (t4:TypeId) (y5:List Int) (n5:Nat) (t5:TypeId) (ty:TypeId):Nat→List Blk
 | 0=>aS y1 n1 t1 y2 n2 t2 y3 n3 t3 y4 n4 t4 y5 n5 t5 ty
 | 1=>mem y1 n1 t1 y2 n2 t2 y3 n3 t3 y4 n4 t4 y5 n5 t5 ty (b4 5++b4 ((n1:Nat):Int)++((y1.drop 0).take n1)) (4+4+n1) none
 | 2=>mem y1 n1 t1 y2 n2 t2 y3 n3 t3 y4 n4 t4 y5 n5 t5 ty (b4 5++b4 ((n1:Nat):Int)++((y1.drop 0).take n1)++b4 ((n2:Nat):Int)++((y2.drop 0).take n2)) (4+4+n1+4+n2) none
 | 3=>mem y1 n1 t1 y2 n2 t2 y3 n3 t3 y4 n4 t4 y5 n5 t5 ty (b4 5++b4 ((n1:Nat):Int)++((y1.drop 0).take n1)++b4 ((n2:Nat):Int)++((y2.drop 0).take n2)++b4 ((n3:Nat):Int)++((y3.drop 0).take n3)) (4+4+n1+4+n2+4+n3) none
 | 4=>mem y1 n1 t1 y2 n2 t2 y3 n3 t3 y4 n4 t4 y5 n5 t5 ty (b4 5++b4 ((n1:Nat):Int)++((y1.drop 0).take n1)++b4 ((n2:Nat):Int)++((y2.drop 0).take n2)++b4 ((n3:Nat):Int)++((y3.drop 0).take n3)++b4 ((n4:Nat):Int)++((y4.drop 0).take n4)) (4+4+n1+4+n2+4+n3+4+n4) none
 | _=>mem y1 n1 t1 y2 n2 t2 y3 n3 t3 y4 n4 t4 y5 n5 t5 ty (b4 5++b4 ((n1:Nat):Int)++((y1.drop 0).take n1)++b4 ((n2:Nat):Int)++((y2.drop 0).take n2)++b4 ((n3:Nat):Int)++((y3.drop 0).take n3)++b4 ((n4:Nat):Int)++((y4.drop 0).take n4)++b4 ((n5:Nat):Int)++((y5.drop 0).take n5)) (4+4+n1+4+n2+4+n3+4+n4+4+n5) none
theorem walk {G:Glob} (y1:List Int) (n1:Nat) (t1:TypeId) (y2:List Int) (n2:Nat) (t2:TypeId) (y3:List Int) (n3:Nat) (t3:TypeId) (y4:List Int) (n4:Nat) (t4:TypeId) (y5:List Int) (n5:Nat) (t5:TypeId) (ty:TypeId) (h1:y1.length=n1) (h2:y2.length=n2) (h3:y3.length=n3) (h4:y4.length=n4) (h5:y5.length=n5) (hT:fC [y1,y2,y3,y4,y5]≤1048576):
  aK Tryz.prog G 6 body (aH fn [.o (.a (.slc 0 0 5 5))]) (args y1 n1 t1 y2 n2 t2 y3 n3 t3 y4 n4 t4 y5 n5 t5 ty ) (aN tys fn (bA (rencRes [y1,y2,y3,y4,y5]) (.new 5 (.gro .u8 (encB [y1,y2,y3,y4,y5]) (fC [y1,y2,y3,y4,y5]) none)))):=by
 have hE:fC [y1,y2,y3,y4,y5]=4+4+n1+4+n2+4+n3+4+n4+4+n5:=by simp only[fC,encL];omega
 have el1:((y1.drop 0).take n1).length=n1:=by rw[dt y1 n1 h1];exact h1
 have el2:((y2.drop 0).take n2).length=n2:=by rw[dt y2 n2 h2];exact h2
 have el3:((y3.drop 0).take n3).length=n3:=by rw[dt y3 n3 h3];exact h3
 have el4:((y4.drop 0).take n4).length=n4:=by rw[dt y4 n4 h4];exact h4
 have el5:((y5.drop 0).take n5).length=n5:=by rw[dt y5 n5 h5];exact h5
 refine Runs.bS ah mixed 5 (s0 y1 n1 t1 y2 n2 t2 y3 n3 t3 y4 n4 t4 y5 n5 t5 ty ) (holds0 y1 n1 t1 y2 n2 t2 y3 n3 t3 y4 n4 t4 y5 n5 t5 ty (by omega)) (jy y1 n1 t1 y2 n2 t2 y3 n3 t3 y4 n4 t4 y5 n5 t5 ty ) rfl fun g=> ?_
 rw[fV]
 refine Runs.seq (Runs.seq (Runs.au ah mixed (a14 y1 n1 t1 y2 n2 t2 y3 n3 t3 y4 n4 t4 y5 n5 t5 ty g) trivial (eT y1 n1 t1 y2 n2 t2 y3 n3 t3 y4 n4 t4 y5 n5 t5 ty 0) rfl fun g=> ?_))
 refine Runs.block ?_
 refine Runs.dS (Mx n1 n2 n3 n4 n5 ) (Bx y1 n1 t1 y2 n2 t2 y3 n3 t3 y4 n4 t4 y5 n5 t5 ty ) (fun i=>i≤5) (fun i=>5-i) ?_ 0 (by omega) g
 intro i g hi
 obtain rfl | rfl | rfl | rfl | rfl | rfl:i=0∨i=1∨i=2∨i=3∨i=4∨i=5:=by omega
 ·refine Runs.bS ah mixed 2 (hd0 y1 n1 t1 y2 n2 t2 y3 n3 t3 y4 n4 t4 y5 n5 t5 ty g) trivial (eT y1 n1 t1 y2 n2 t2 y3 n3 t3 y4 n4 t4 y5 n5 t5 ty 0) rfl fun g=> ?_
  rw[L_eq]
  refine Runs.seq (Runs.block (Runs.bS ah mixed 1 (x0 y1 n1 t1 y2 n2 t2 y3 n3 t3 y4 n4 t4 y5 n5 t5 ty g) trivial (idsN1 y1 n1 t1 y2 n2 t2 y3 n3 t3 y4 n4 t4 y5 n5 t5 ty 0) rfl fun g=> ?_))
  rw[B3_eq]
  refine Runs.seq (Runs.region (u0 y1 n1 t1 y2 n2 t2 y3 n3 t3 y4 n4 t4 y5 n5 t5 ty (fun g=> ?_) g))
  refine Runs.region (v0 y1 n1 t1 y2 n2 t2 y3 n3 t3 y4 n4 t4 y5 n5 t5 ty (b4 5++b4 ((n1:Nat):Int)) (4+4) (4+4) (by simp only[List.length_append,lu,el1,el2,el3,el4,el5]) (by omega) h1 (by omega) (fun g=> ?_) g)
  exact Runs.au ah mixed (e0 y1 n1 t1 y2 n2 t2 y3 n3 t3 y4 n4 t4 y5 n5 t5 ty _ _ _ g) trivial (fu y1 n1 t1 y2 n2 t2 y3 n3 t3 y4 n4 t4 y5 n5 t5 ty _ _ _ _ _) rfl fun g=>⟨1,g,rfl,rfl,by omega,by omega⟩
 ·refine Runs.bS ah mixed 2 (hd1 y1 n1 t1 y2 n2 t2 y3 n3 t3 y4 n4 t4 y5 n5 t5 ty (b4 5++b4 ((n1:Nat):Int)++((y1.drop 0).take n1)) (4+4+n1) (4+4+n1) g) trivial (fu y1 n1 t1 y2 n2 t2 y3 n3 t3 y4 n4 t4 y5 n5 t5 ty _ _ _ _ _) rfl fun g=> ?_
  rw[L_eq]
  refine Runs.seq (Runs.block (Runs.bS ah mixed 1 (x1 y1 n1 t1 y2 n2 t2 y3 n3 t3 y4 n4 t4 y5 n5 t5 ty _ _ _ g) trivial (iG y1 n1 t1 y2 n2 t2 y3 n3 t3 y4 n4 t4 y5 n5 t5 ty _ _ _ _ _) rfl fun g=> ?_))
  rw[B3_eq]
  refine Runs.seq (Runs.region (u1 y1 n1 t1 y2 n2 t2 y3 n3 t3 y4 n4 t4 y5 n5 t5 ty (b4 5++b4 ((n1:Nat):Int)++((y1.drop 0).take n1)) (4+4+n1) (4+4+n1) (by simp only[List.length_append,lu,el1,el2,el3,el4,el5]) (by omega) (fun g=> ?_) g))
  refine Runs.region (v1 y1 n1 t1 y2 n2 t2 y3 n3 t3 y4 n4 t4 y5 n5 t5 ty (b4 5++b4 ((n1:Nat):Int)++((y1.drop 0).take n1)++b4 ((n2:Nat):Int)) (4+4+n1+4) (4+4+n1+4) (by simp only[List.length_append,lu,el1,el2,el3,el4,el5]) (by omega) h2 (by omega) (fun g=> ?_) g)
  exact Runs.au ah mixed (e1 y1 n1 t1 y2 n2 t2 y3 n3 t3 y4 n4 t4 y5 n5 t5 ty _ _ _ g) trivial (fu y1 n1 t1 y2 n2 t2 y3 n3 t3 y4 n4 t4 y5 n5 t5 ty _ _ _ _ _) rfl fun g=>⟨2,g,rfl,rfl,by omega,by omega⟩
 ·refine Runs.bS ah mixed 2 (hd2 y1 n1 t1 y2 n2 t2 y3 n3 t3 y4 n4 t4 y5 n5 t5 ty (b4 5++b4 ((n1:Nat):Int)++((y1.drop 0).take n1)++b4 ((n2:Nat):Int)++((y2.drop 0).take n2)) (4+4+n1+4+n2) (4+4+n1+4+n2) g) trivial (fu y1 n1 t1 y2 n2 t2 y3 n3 t3 y4 n4 t4 y5 n5 t5 ty _ _ _ _ _) rfl fun g=> ?_
  rw[L_eq]
  refine Runs.seq (Runs.block (Runs.bS ah mixed 1 (x2 y1 n1 t1 y2 n2 t2 y3 n3 t3 y4 n4 t4 y5 n5 t5 ty _ _ _ g) trivial (iG y1 n1 t1 y2 n2 t2 y3 n3 t3 y4 n4 t4 y5 n5 t5 ty _ _ _ _ _) rfl fun g=> ?_))
  rw[B3_eq]
  refine Runs.seq (Runs.region (u2 y1 n1 t1 y2 n2 t2 y3 n3 t3 y4 n4 t4 y5 n5 t5 ty (b4 5++b4 ((n1:Nat):Int)++((y1.drop 0).take n1)++b4 ((n2:Nat):Int)++((y2.drop 0).take n2)) (4+4+n1+4+n2) (4+4+n1+4+n2) (by simp only[List.length_append,lu,el1,el2,el3,el4,el5]) (by omega) (fun g=> ?_) g))
  refine Runs.region (v2 y1 n1 t1 y2 n2 t2 y3 n3 t3 y4 n4 t4 y5 n5 t5 ty (b4 5++b4 ((n1:Nat):Int)++((y1.drop 0).take n1)++b4 ((n2:Nat):Int)++((y2.drop 0).take n2)++b4 ((n3:Nat):Int)) (4+4+n1+4+n2+4) (4+4+n1+4+n2+4) (by simp only[List.length_append,lu,el1,el2,el3,el4,el5]) (by omega) h3 (by omega) (fun g=> ?_) g)
  exact Runs.au ah mixed (e2 y1 n1 t1 y2 n2 t2 y3 n3 t3 y4 n4 t4 y5 n5 t5 ty _ _ _ g) trivial (fu y1 n1 t1 y2 n2 t2 y3 n3 t3 y4 n4 t4 y5 n5 t5 ty _ _ _ _ _) rfl fun g=>⟨3,g,rfl,rfl,by omega,by omega⟩
 ·refine Runs.bS ah mixed 2 (hd3 y1 n1 t1 y2 n2 t2 y3 n3 t3 y4 n4 t4 y5 n5 t5 ty (b4 5++b4 ((n1:Nat):Int)++((y1.drop 0).take n1)++b4 ((n2:Nat):Int)++((y2.drop 0).take n2)++b4 ((n3:Nat):Int)++((y3.drop 0).take n3)) (4+4+n1+4+n2+4+n3) (4+4+n1+4+n2+4+n3) g) trivial (fu y1 n1 t1 y2 n2 t2 y3 n3 t3 y4 n4 t4 y5 n5 t5 ty _ _ _ _ _) rfl fun g=> ?_
  rw[L_eq]
  refine Runs.seq (Runs.block (Runs.bS ah mixed 1 (x3 y1 n1 t1 y2 n2 t2 y3 n3 t3 y4 n4 t4 y5 n5 t5 ty _ _ _ g) trivial (iG y1 n1 t1 y2 n2 t2 y3 n3 t3 y4 n4 t4 y5 n5 t5 ty _ _ _ _ _) rfl fun g=> ?_))
  rw[B3_eq]
  refine Runs.seq (Runs.region (u3 y1 n1 t1 y2 n2 t2 y3 n3 t3 y4 n4 t4 y5 n5 t5 ty (b4 5++b4 ((n1:Nat):Int)++((y1.drop 0).take n1)++b4 ((n2:Nat):Int)++((y2.drop 0).take n2)++b4 ((n3:Nat):Int)++((y3.drop 0).take n3)) (4+4+n1+4+n2+4+n3) (4+4+n1+4+n2+4+n3) (by simp only[List.length_append,lu,el1,el2,el3,el4,el5]) (by omega) (fun g=> ?_) g))
  refine Runs.region (v3 y1 n1 t1 y2 n2 t2 y3 n3 t3 y4 n4 t4 y5 n5 t5 ty (b4 5++b4 ((n1:Nat):Int)++((y1.drop 0).take n1)++b4 ((n2:Nat):Int)++((y2.drop 0).take n2)++b4 ((n3:Nat):Int)++((y3.drop 0).take n3)++b4 ((n4:Nat):Int)) (4+4+n1+4+n2+4+n3+4) (4+4+n1+4+n2+4+n3+4) (by simp only[List.length_append,lu,el1,el2,el3,el4,el5]) (by omega) h4 (by omega) (fun g=> ?_) g)
  exact Runs.au ah mixed (e3 y1 n1 t1 y2 n2 t2 y3 n3 t3 y4 n4 t4 y5 n5 t5 ty _ _ _ g) trivial (fu y1 n1 t1 y2 n2 t2 y3 n3 t3 y4 n4 t4 y5 n5 t5 ty _ _ _ _ _) rfl fun g=>⟨4,g,rfl,rfl,by omega,by omega⟩
 ·refine Runs.bS ah mixed 2 (hd4 y1 n1 t1 y2 n2 t2 y3 n3 t3 y4 n4 t4 y5 n5 t5 ty (b4 5++b4 ((n1:Nat):Int)++((y1.drop 0).take n1)++b4 ((n2:Nat):Int)++((y2.drop 0).take n2)++b4 ((n3:Nat):Int)++((y3.drop 0).take n3)++b4 ((n4:Nat):Int)++((y4.drop 0).take n4)) (4+4+n1+4+n2+4+n3+4+n4) (4+4+n1+4+n2+4+n3+4+n4) g) trivial (fu y1 n1 t1 y2 n2 t2 y3 n3 t3 y4 n4 t4 y5 n5 t5 ty _ _ _ _ _) rfl fun g=> ?_
  rw[L_eq]
  refine Runs.seq (Runs.block (Runs.bS ah mixed 1 (x4 y1 n1 t1 y2 n2 t2 y3 n3 t3 y4 n4 t4 y5 n5 t5 ty _ _ _ g) trivial (iG y1 n1 t1 y2 n2 t2 y3 n3 t3 y4 n4 t4 y5 n5 t5 ty _ _ _ _ _) rfl fun g=> ?_))
  rw[B3_eq]
  refine Runs.seq (Runs.region (u4 y1 n1 t1 y2 n2 t2 y3 n3 t3 y4 n4 t4 y5 n5 t5 ty (b4 5++b4 ((n1:Nat):Int)++((y1.drop 0).take n1)++b4 ((n2:Nat):Int)++((y2.drop 0).take n2)++b4 ((n3:Nat):Int)++((y3.drop 0).take n3)++b4 ((n4:Nat):Int)++((y4.drop 0).take n4)) (4+4+n1+4+n2+4+n3+4+n4) (4+4+n1+4+n2+4+n3+4+n4) (by simp only[List.length_append,lu,el1,el2,el3,el4,el5]) (by omega) (fun g=> ?_) g))
  refine Runs.region (v4 y1 n1 t1 y2 n2 t2 y3 n3 t3 y4 n4 t4 y5 n5 t5 ty (b4 5++b4 ((n1:Nat):Int)++((y1.drop 0).take n1)++b4 ((n2:Nat):Int)++((y2.drop 0).take n2)++b4 ((n3:Nat):Int)++((y3.drop 0).take n3)++b4 ((n4:Nat):Int)++((y4.drop 0).take n4)++b4 ((n5:Nat):Int)) (4+4+n1+4+n2+4+n3+4+n4+4) (4+4+n1+4+n2+4+n3+4+n4+4) (by simp only[List.length_append,lu,el1,el2,el3,el4,el5]) (by omega) h5 (by omega) (fun g=> ?_) g)
  exact Runs.au ah mixed (e4 y1 n1 t1 y2 n2 t2 y3 n3 t3 y4 n4 t4 y5 n5 t5 ty _ _ _ g) trivial (fu y1 n1 t1 y2 n2 t2 y3 n3 t3 y4 n4 t4 y5 n5 t5 ty _ _ _ _ _) rfl fun g=>⟨5,g,rfl,rfl,by omega,by omega⟩
 ·refine Runs.au ah mixed (hz y1 n1 t1 y2 n2 t2 y3 n3 t3 y4 n4 t4 y5 n5 t5 ty (b4 5++b4 ((n1:Nat):Int)++((y1.drop 0).take n1)++b4 ((n2:Nat):Int)++((y2.drop 0).take n2)++b4 ((n3:Nat):Int)++((y3.drop 0).take n3)++b4 ((n4:Nat):Int)++((y4.drop 0).take n4)++b4 ((n5:Nat):Int)++((y5.drop 0).take n5)) (4+4+n1+4+n2+4+n3+4+n4+4+n5) (4+4+n1+4+n2+4+n3+4+n4+4+n5) g) trivial (idsZ y1 n1 t1 y2 n2 t2 y3 n3 t3 y4 n4 t4 y5 n5 t5 ty _ _ _ _) rfl fun g=> ?_
  refine Runs.aQ ah mixed (d y1 n1 t1 y2 n2 t2 y3 n3 t3 y4 n4 t4 y5 n5 t5 ty _ _ _ g) trivial (aN.ret (res y1 n1 t1 y2 n2 t2 y3 n3 t3 y4 n4 t4 y5 n5 t5 ty _ _ _ g) ⟨6,?_,?_⟩)
  ·unfold rencRes
   rw[hE]
   rfl
  ·rw[row,hE]
   congr 3
   simp only[dt y1 n1 h1,dt y2 n2 h2,dt y3 n3 h3,dt y4 n4 h4,dt y5 n5 h5,encB,encR,List.append_assoc,List.append_nil,h1,h2,h3,h4,h5]
   rfl
def D:Dec Tryz.prog LstA:=Dec.list Tryz.prog .u8 [true,true,true,true,true] rencRes (fun ls=> .new 5 (.gro .u8 (encB ls) (fC ls) none)) (fun ls=>[fC ls≤1048576]) (fun ls=>rfl)
noncomputable def con {G:Glob}:Con Tryz.prog G:=Con.hand ah 40 fn Tryz.func40 (by kernel_rfl) (c:=body) (by kernel_rfl) D
 (fun x hc hi=>by
  obtain⟨its,m,ty⟩:=x
  obtain⟨hs,hn,hy⟩:=hi
  have hp:=(aR hc).2.1
  simp only at hs hn hy hp
  obtain⟨a1,t1,rfl,q1⟩:=nE hs
  obtain⟨a2,t2,rfl,q2⟩:=nE q1
  obtain⟨a3,t3,rfl,q3⟩:=nE q2
  obtain⟨a4,t4,rfl,q4⟩:=nE q3
  obtain⟨a5,t5,rfl,q5⟩:=nE q4
  obtain rfl:=shp_nil q5
  have hn:m=5:=hn
  subst hn
  exact walk a1.ys a1.n a1.ty a2.ys a2.n a2.ty a3.ys a3.n a3.ty a4.ys a4.n a4.ty a5.ys a5.n a5.ty ty (hy a1 (by simp[dR])) (hy a2 (by simp[dR])) (hy a3 (by simp[dR])) (hy a4 (by simp[dR])) (hy a5 (by simp[dR])) hp)
end k5
end renc
end Go.Proofs.YthlmepolmemejaaGreatDoor

/- Package wire: Account: its walk (a range over a text). -/
import Derived.Test.YtbfndladaldajaaGreatDoorQTy
import Derived.LoopTactic
import Derived.Laws.RangeString
import Derived.Laws.Strings
import Derived.Laws.Strings2
import Derived.Laws.Strings3
import Derived.Laws.RangeAny
import Derived.Test.YtbfndladaldajaaGreatDoorQMA
namespace Go.Proofs.YtbfndladaldajaaGreatDoor
open Go Go.Eng Go.RowKit
set_option linter.unusedVariables false
set_option linter.unusedSimpArgs false
set_option maxRecDepth 100000
def okB (n:Int):Bool:=(decide (97≤n)&&decide (n≤122))||(decide (48≤n)&&decide (n≤57))||decide (n=46)||decide (n=95)||decide (n=45)
def bU (xs:List Int):Bool:=xs.all okB&&(decide (1≤xs.length)&&decide (xs.length≤32))
theorem loop_eq (bs:ByteArray):∀(n i:Nat) (r:List UInt8),bs.size-i=n→ByteArray.toList.loop bs i r=r.reverse++bs.data.toList.drop i
 | 0,i,r,h=>by
  unfold ByteArray.toList.loop
  have hs:bs.size=bs.data.toList.length:=rfl
  rw[if_neg (by omega),List.drop_eq_nil_of_le (by omega),List.append_nil]
 | n+1,i,r,h=>by
  unfold ByteArray.toList.loop
  have hs:bs.size=bs.data.toList.length:=rfl
  have hi:i<bs.data.toList.length:=by omega
  have hg:bs.get! i=bs.data.toList[i]:=by
   show bs.data[i]! =_
   rw[getElem!_pos bs.data i (by simpa using hi)]
   simp
  rw[if_pos (by omega),loop_eq bs n (i+1) _ (by omega),List.drop_eq_getElem_cons hi,hg]
  simp
theorem toList_data (bs:ByteArray):bs.toList=bs.data.toList:=by
 unfold ByteArray.toList
 rw[loop_eq bs bs.size 0 [] (by omega)]
 simp
theorem text_empty (s:ByteArray):s.toList.isEmpty=decide (s.size=0):=by
 have hs:s.size=s.data.toList.length:=rfl
 rw[toList_data,hs]
 cases s.data.toList<;>simp
theorem bytes_at (s:ByteArray) (pos:Nat) (h:pos<s.size):(ay s).getD pos 0=((s[pos]'h).toNat:Int):=by
 have h':pos<s.data.toList.length:=h
 unfold ay
 rw[List.getD,List.getElem?_map,List.getElem?_eq_getElem h']
 rfl
theorem dec_ok {s:ByteArray} {pos:Nat} (h:pos<s.size) (ho:okB ((Utf8.decode s pos).1:Int)=true):(Utf8.decode s pos).2=1∧okB ((ay s).getD pos 0)=true:=by
 by_cases ha:(s[pos]'h).toNat<128
 ·rw[decode_ascii s pos h ha] at ho ⊢
  exact⟨rfl,by rw[bytes_at s pos h];exact ho⟩
 ·have:=(decode_high s pos h (by omega)).1
  unfold okB at ho
  simp only[Bool.or_eq_true,Bool.and_eq_true,decide_eq_true_eq] at ho
  omega
theorem dec_bad {s:ByteArray} {pos:Nat} (h:pos<s.size) (ho:okB ((Utf8.decode s pos).1:Int)=false):okB ((ay s).getD pos 0)=false:=by
 rw[bytes_at s pos h]
 by_cases ha:(s[pos]'h).toNat<128
 ·rw[decode_ascii s pos h ha] at ho
  exact ho
 ·cases hb:okB ((s[pos]'h).toNat:Int) with
  | false=>rfl
  | true=>
   unfold okB at hb
   simp only[Bool.or_eq_true,Bool.and_eq_true,decide_eq_true_eq] at hb
   omega
theorem acc_bad {s:ByteArray} {pos:Nat} (h:pos<s.size) (ho:okB ((ay s).getD pos 0)=false):bU (ay s)=false:=by
 have hl:pos<(ay s).length:=by rw[dS];exact h
 have:(ay s).all okB=false:=by
  rw[←Bool.not_eq_true,List.all_eq_true]
  intro hall
  have:=hall _ (List.getElem_mem hl)
  rw[List.getD,List.getElem?_eq_getElem hl] at ho
  rw[Option.getD_some,this] at ho
  cases ho
 unfold bU
 rw[this];rfl
theorem acc_all {s:ByteArray} (h:∀k,k<s.size→okB ((ay s).getD k 0)=true):bU (ay s)=(decide (1≤s.size)&&decide (s.size≤32)):=by
 have:(ay s).all okB=true:=by
  rw[List.all_eq_true]
  intro x hx
  obtain⟨k,hk,rfl⟩:=List.mem_iff_getElem.1 hx
  have:=h k (by rw[←dS];exact hk)
  rw[List.getD,List.getElem?_eq_getElem hk] at this
  exact this
 unfold bU
 rw[this,dS];rfl
theorem acc_walk (s : ByteArray) (w : World) :
    Calls Tryz.prog 108 #[.string s] w fun e w' => e = .returned (.bool (bU (ay s))) ∧ ∃ pos, w' = w.iter s pos := by
  go_enter Tryz.func108, Tryz.ntmps108
  go_wp2
  go_loopw [] (fun wr => ∃ pos : Nat, wr = w.iter s pos ∧ pos ≤ s.size ∧ ∀ k, k < pos → okB ((ay s).getD k 0) = true) (fun wr => s.size - wr.iterPos w.heap.size)
  case atStart => exact ⟨0, rfl, by omega, fun k hk => by omega⟩
  case round =>
    obtain ⟨pos, rfl, hp0, hall⟩ := hrel
    by_cases hp : pos < s.size
    · have hnx : ∀ ty, (Instr.next (.pointer (some ⟨w.heap.size, 0, none⟩)) true ty).run Tryz.prog (w.iter s pos) = _ := fun ty => run_next_any w s pos ty hp
      go_wp2
      all_goals first
        | (have hg : okB ((Utf8.decode s pos).1 : Int) = true := by
            unfold okB
            simp only [Bool.or_eq_true, Bool.and_eq_true, decide_eq_true_eq]
            try simp only [beq_iff_eq, beq_eq_false_iff_ne, ne_eq] at *
            omega
           obtain ⟨h1, h2⟩ := dec_ok hp hg
           rw [h1]
           refine ⟨⟨pos + 1, rfl, by omega, fun k hk => ?_⟩, ?_⟩
           · by_cases e : k = pos
             · rw [e]; exact h2
             · exact hall k (by omega)
           · simp; omega)
        | (have hg : okB ((Utf8.decode s pos).1 : Int) = false := by
            cases hb : okB ((Utf8.decode s pos).1 : Int) with
            | false => rfl
            | true =>
              unfold okB at hb
              simp only [Bool.or_eq_true, Bool.and_eq_true, decide_eq_true_eq] at hb
              try simp only [beq_iff_eq, beq_eq_false_iff_ne, ne_eq] at *
              omega
           have h2 := acc_bad hp (dec_bad hp hg)
           go_ret
           rw [h2]
           exact ⟨rfl, _, rfl⟩)
    · have hnx : ∀ ty, (Instr.next (.pointer (some ⟨w.heap.size, 0, none⟩)) true ty).run Tryz.prog (w.iter s pos) = _ := fun ty => run_next_end w s pos ty hp
      go_wp2
      all_goals
        have ha := acc_all (s := s) fun k hk => hall k (by omega)
        go_ret
        rw [ha]
      · rename_i he
        have : s.toList.isEmpty = true := by rw [he]; rfl
        rw [text_empty, decide_eq_true_eq] at this
        rw [this]
        exact ⟨rfl, _, rfl⟩
      · refine ⟨?_, _, rfl⟩
        rw [text_empty]
        have e1 : (!decide (s.size = 0)) = decide (1 ≤ s.size) := by
          by_cases h0 : s.size = 0
          · rw [h0]; rfl
          · rw [decide_eq_false h0, decide_eq_true (by omega)]; rfl
        have e2 : decide ((s.size : Int) ≤ 32) = decide (s.size ≤ 32) := by
          by_cases h0 : s.size ≤ 32
          · rw [decide_eq_true h0, decide_eq_true (by omega)]
          · rw [decide_eq_false h0, decide_eq_false (by omega)]
        rw [e1, e2]
        rfl
theorem acc_ok {G:Glob} (s:ByteArray):FnOk Tryz.prog G 108 [.o (.a (.v (.string s)))] (.o (.a (bool1 (bU (ay s))))):=fun w β hg=>
 (acc_walk s w).mono fun e w' ⟨he,pos,hw⟩=>⟨he,by rw[hw];exact(Below.refl _ _).alloc (Nat.le_refl _) _⟩
def acc_con {G:Glob}:Con Tryz.prog G:=Con.of 108 Tryz.f108 Tryz.func108 (by kernel_rfl) (by kernel_rfl)
 (fun args=>match args with | [.o (.a (.v (.string s)))]=>some (.o (.a (bool1 (bU (ay s)))),[]) | _=>none)
 (fun args r c h=>by
  split at h<;>cases h
  exact⟨rfl,fun _=>acc_ok _⟩)
end Go.Proofs.YtbfndladaldajaaGreatDoor
namespace Go.Proofs.YtbfndladaldajaaGreatDoor
open Go Go.Eng Go.RowKit
set_option linter.unusedVariables false
set_option linter.unusedSimpArgs false
set_option maxRecDepth 100000
theorem racc_walk (s : ByteArray) (w : World) (hs : s.size ≤ 9223372036854775807) :
    Calls Tryz.prog 109 #[.string s] w fun e w' => e = .returned (.bool (bU (ay s))) ∧ Below w.heap.size w w' := by
  go_enter Tryz.func109, Tryz.ntmps109
  go_wp2
  go_loop [3] (fun i => ∃ pos : Nat, i = .int .i64 pos ∧ pos ≤ s.size ∧ ∀ k, k < pos → okB ((ay s).getD k 0) = true) (fun i => s.size - (intOf i).toNat)
  case atStart => exact ⟨0, rfl, by omega, fun k hk => by omega⟩
  case round =>
    obtain ⟨pos, rfl, hp0, hall⟩ := hrel
    go_wp2
    all_goals first
      | (
         have hp : pos < s.size := by assumption
         have hg : okB ((s[pos]'hp).toNat : Int) = true := by
          unfold okB
          simp only [Bool.or_eq_true, Bool.and_eq_true, decide_eq_true_eq]
          try simp only [Bool.not_eq_true', Bool.not_eq_false', decide_eq_true_eq, decide_eq_false_iff_not, beq_iff_eq, beq_eq_false_iff_ne, ne_eq] at *
          omega
         rw [show ((pos : Int) + 1) = ((pos + 1 : Nat) : Int) by omega]
         refine ⟨⟨pos + 1, rfl, by omega, fun k hk => ?_⟩, ?_⟩
         · by_cases e : k = pos
           · rw [e, bytes_at s pos hp]; exact hg
           · exact hall k (by omega)
         · simp [intOf]; omega)
      | (
         have hp : pos < s.size := by assumption
         have hg : okB ((s[pos]'hp).toNat : Int) = false := by
          cases hb : okB ((s[pos]'hp).toNat : Int) with
          | false => rfl
          | true =>
            unfold okB at hb
            simp only [Bool.or_eq_true, Bool.and_eq_true, decide_eq_true_eq] at hb
            try simp only [Bool.not_eq_true', Bool.not_eq_false', decide_eq_true_eq, decide_eq_false_iff_not, beq_iff_eq, beq_eq_false_iff_ne, ne_eq] at *
            omega
         have h2 := acc_bad hp (by rw [bytes_at s pos hp]; exact hg)
         go_ret
         rw [h2]
         exact ⟨rfl, Below.refl _ _⟩)
      | (
         have hp : ¬ pos < s.size := by assumption
         have ha := acc_all (s := s) fun k hk => hall k (by omega)
         have e2 : decide ((s.size : Int) ≤ 32) = decide (s.size ≤ 32) := by
          by_cases h0 : s.size ≤ 32
          · rw [decide_eq_true h0, decide_eq_true (by omega)]
          · rw [decide_eq_false h0, decide_eq_false (by omega)]
         first
         | (
            have e1 : decide (1 ≤ s.size) = true := decide_eq_true (by omega)
            go_ret
            rw [ha, e1, ← e2]
            exact ⟨rfl, Below.refl _ _⟩)
         | (
            have e1 : decide (1 ≤ s.size) = false := decide_eq_false (by omega)
            go_ret
            rw [ha, e1]
            exact ⟨rfl, Below.refl _ _⟩))
theorem racc_ok {G:Glob} (s:ByteArray) (hs:s.size≤9223372036854775807):FnOk Tryz.prog G 109 [.o (.a (.v (.string s)))] (.o (.a (bool1 (bU (ay s))))):=fun w β hg=>racc_walk s w hs
def racc_con {G:Glob}:Con Tryz.prog G:=Con.of 109 Tryz.f109 Tryz.func109 (by kernel_rfl) (by kernel_rfl)
 (fun args=>match args with | [.o (.a (.v (.string s)))]=>some (.o (.a (bool1 (bU (ay s)))),[s.size≤9223372036854775807]) | _=>none)
 (fun args r c h=>by
  split at h<;>cases h
  exact⟨rfl,fun hc=>racc_ok _ hc.1⟩)
end Go.Proofs.YtbfndladaldajaaGreatDoor
namespace Go.Proofs.YtbfndladaldajaaGreatDoor
open Go Go.Eng Go.RowKit
set_option linter.unusedVariables false
set_option linter.unusedSimpArgs false
set_option maxRecDepth 100000
theorem room8 (n:Nat) (h:n≤140737488355328):Room Tryz.prog 5 n:=by
 have h1:(Tryz.prog.info? 5).map (·.bytes)=some 1:=by kernel_rfl
 cases hq:Tryz.prog.info? 5 with
 | none=>rw[hq] at h1;cases h1
 | some j=>
  rw[hq] at h1
  have:j.bytes=1:=by simpa using h1
  exact⟨j,hq,by rw[this];omega,by omega⟩
theorem wu8 (n:Int):IntKind.u8.wrap n=n%256:=by
 rw[IntKind.wrap_u8]
theorem wi64 (n:Int) (h0: -9223372036854775808≤n) (h1:n<9223372036854775808):IntKind.i64.wrap n=n:=by rw[IntKind.wrap_i64];omega
theorem wu32 (n:Int):IntKind.u32.wrap n=n%4294967296:=by
 rw[IntKind.wrap_u32]
def b4 (v:Int):List Int:=[IntKind.u8.wrap (v.fdiv 16777216),IntKind.u8.wrap (v.fdiv 65536),IntKind.u8.wrap (v.fdiv 256),IntKind.u8.wrap v]
theorem b4_len (v:Int):(b4 v).length=4:=rfl
namespace rfour
variable {G:Glob}
noncomputable abbrev fn:=Tryz.f162
noncomputable def body:Code:=bS fn
noncomputable def e (G:Glob) (v:Int):St:=outS ([]:Cons Tryz.prog G) tys 100 body ⟨aA fn [.o (.a (.v (.int .i64 v)))],[],[]⟩
theorem ex (v:Int):exec ([]:Cons Tryz.prog G) tys 100 body ⟨aA fn [.o (.a (.v (.int .i64 v)))],[],[]⟩=some (.ret,⟨(e G v).tm,(e G v).mem,[]⟩,[]):=by kernel_rfl
theorem res (v:Int):eRes tys (e G v).tm (fun k=>(e G v).mem[k]?) fn.results.toList=some [.a (.slc 0 0 4 4)]:=by kernel_rfl
theorem row (v:Int):(e G v).mem[0]? =some ⟨true,5,.lit ((b4 v).map (int1 .u8))⟩:=by kernel_rfl
def spec:List PArg→Option (SV × LEff × Cst)
 | [.val (.o (.a (.v (.int .i64 v))))]=>some (.o (.a (.slc 0 0 4 4)),.new 5 (.lit ((b4 v).map (int1 .u8))),[])
 | _=>none
end rfour
noncomputable def rfour_con {G:Glob}:Con Tryz.prog G:=Con.parts ah 162 rfour.fn Tryz.func162 (by kernel_rfl) (c:=rfour.body) (by kernel_rfl) [.val] rfour.spec
 (fun ps r e p h hp=>by
  unfold rfour.spec at h
  split at h<;>cases h
  exact⟨rfl,fun b hb=>by cases hb⟩)
 (fun ps r e p cap h hp hi=>by
  unfold rfour.spec at h
  split at h<;>cases h
  exact Runs.aH ah mixed (rfour.ex _) trivial (aD.ret (rfour.res _) ⟨0,rfl,rfour.row _⟩))
namespace four
variable {G:Glob}
noncomputable abbrev fn:=Tryz.f161
noncomputable def body:Code:=bS fn
abbrev iv (v:Int):SV:= .o (.a (.v (.int .i64 v)))
abbrev nilV:SV:= .o (.a (.v (.slice none 0 0)))
noncomputable def ne (G:Glob) (v:Int):St:=outS ([]:Cons Tryz.prog G) tys 100 body ⟨aA fn [nilV,iv v],[],[]⟩
theorem nex (v:Int):exec ([]:Cons Tryz.prog G) tys 100 body ⟨aA fn [nilV,iv v],[],[]⟩=some (.ret,⟨(ne G v).tm,(ne G v).mem,[]⟩,[0+4≤4,1≤4,Room Tryz.prog 5 4]):=by kernel_rfl
theorem nres (v:Int):eRes tys (ne G v).tm (fun k=>(ne G v).mem[k]?) fn.results.toList=some [.a (.slg 1 4)]:=by kernel_rfl
theorem nrow (v:Int):(ne G v).mem[1]? =some ⟨true,5,.gro .u8 (b4 v) 4 none⟩:=by kernel_rfl
def nspec:List PArg→Option (SV × LEff × Cst)
 | [.val (.o (.a (.v (.slice none 0 0)))),.val (.o (.a (.v (.int .i64 v))))]=>some (.o (.a (.slg 0 4)),.new 5 (.gro .u8 (b4 v) 4 none),[])
 | _=>none
noncomputable def is (xs:List Int) (ty:TypeId) (n lo:Nat) (v:Int):St:=⟨aA fn [.o (.a (.slg 0 n)),iv v],[⟨true,ty,.gro .u8 xs lo none⟩],[]⟩
noncomputable def ie (G:Glob) (xs:List Int) (ty:TypeId) (n lo:Nat) (v:Int):St:=outS ([]:Cons Tryz.prog G) tys 100 body (is xs ty n lo v)
section
variable (xs:List Int) (ty:TypeId) (n lo:Nat) (v:Int)
theorem iex:exec ([]:Cons Tryz.prog G) tys 100 body (is xs ty n lo v)=some (.ret,⟨(ie G xs ty n lo v).tm,(ie G xs ty n lo v).mem,[]⟩,[0+4≤4,n=xs.length,n+4≤lo]):=by kernel_rfl
theorem ires:eRes tys (ie G xs ty n lo v).tm (fun k=>(ie G xs ty n lo v).mem[k]?) fn.results.toList=some [.a (.slg 0 (n+4))]:=by kernel_rfl
theorem irow:(ie G xs ty n lo v).mem[0]? =some ⟨true,ty,.gro .u8 (xs++b4 v) lo none⟩:=by kernel_rfl
end
noncomputable def gs (xs:List Int) (ty:TypeId) (n lo h:Nat) (v:Int):St:=⟨aA fn [.o (.a (.slg 0 n)),iv v],[⟨false,ty,.gro .u8 xs lo (some h)⟩],[]⟩
noncomputable def ge (G:Glob) (xs:List Int) (ty:TypeId) (n lo h:Nat) (v:Int):St:=outS ([]:Cons Tryz.prog G) tys 100 body (gs xs ty n lo h v)
section
variable (xs:List Int) (ty:TypeId) (n lo h:Nat) (v:Int)
theorem gex:exec ([]:Cons Tryz.prog G) tys 100 body (gs xs ty n lo h v)=some (.ret,⟨(ge G xs ty n lo h v).tm,(ge G xs ty n lo h v).mem,[]⟩,[0+4≤4,n=xs.length,h≤n+4,Room Tryz.prog 5 (n+4)]):=by kernel_rfl
theorem gres:eRes tys (ge G xs ty n lo h v).tm (fun k=>(ge G xs ty n lo h v).mem[k]?) fn.results.toList=some [.a (.slg 2 (n+4))]:=by kernel_rfl
theorem grow:(ge G xs ty n lo h v).mem[2]? =some ⟨true,5,.gro .u8 (xs++b4 v) (n+4) none⟩:=by kernel_rfl
end
noncomputable def bs (xs:List Int) (ty:TypeId) (o n c:Nat) (v:Int):St:=⟨aA fn [.o (.a (.sld 0 0 o n c)),iv v],[⟨true,ty,.run .u8 xs⟩],[]⟩
noncomputable def be (G:Glob) (xs:List Int) (ty:TypeId) (o n c:Nat) (v:Int):St:=outS ([]:Cons Tryz.prog G) tys 100 body (bs xs ty o n c v)
section
variable (xs:List Int) (ty:TypeId) (o n c:Nat) (v:Int)
theorem bex:exec ([]:Cons Tryz.prog G) tys 100 body (bs xs ty o n c v)=some (.ret,⟨(be G xs ty o n c v).tm,(be G xs ty o n c v).mem,[]⟩,[0+4≤4,n+4≤c,o+n+4≤xs.length]):=by kernel_rfl
theorem bres:eRes tys (be G xs ty o n c v).tm (fun k=>(be G xs ty o n c v).mem[k]?) fn.results.toList=some [.a (.sld 0 0 o (n+4) c)]:=by kernel_rfl
theorem brow:(be G xs ty o n c v).mem[0]? =some ⟨true,ty,.run .u8 (putI (o+n) (b4 v) 0 xs)⟩:=by kernel_rfl
end
def bspec:List PArg→Option (SV × LEff × Cst)
 | [.buf .u8 ty xs l o n c,.val (.o (.a (.v (.int .i64 v))))]=>some (.o (.a (.sld 0 0 o (n+4) c)),.upd ty (.run .u8 (putI (o+n) (b4 v) 0 xs)),[n+4≤c,o+n+4≤xs.length])
 | _=>none
noncomputable def nilC {G:Glob}:Con Tryz.prog G:=Con.parts ah 161 fn Tryz.func161 (by kernel_rfl) (c:=body) (by kernel_rfl) [.val,.val] nspec
 (fun ps r e p h hp=>by
  unfold nspec at h
  split at h<;>cases h
  exact⟨rfl,fun b hb=>by cases hb⟩)
 (fun ps r e p cap h hp hi=>by
  unfold nspec at h
  split at h<;>cases h
  exact Runs.aH ah mixed (nex _) ⟨by omega,by omega,room8 _ (by omega),trivial⟩ (aD.ret (nres _) ⟨1,rfl,nrow _⟩))
theorem nil_fr {G:Glob}:∀m fr fr' args,(nilC (G:=G)).spec m fr args=none→(nilC (G:=G)).spec m fr' args=none:=fun _ _ _ _ h=>Con.parts_fr _ _ _ _ _ _ _ _ _ _ _ _ _ _ h
noncomputable def bufC {G:Glob}:Con Tryz.prog G:=Con.parts ah 161 fn Tryz.func161 (by kernel_rfl) (c:=body) (by kernel_rfl) [.buf .u8,.val] bspec
 (fun ps r e p h hp=>by
  unfold bspec at h
  split at h<;>cases h
  exact⟨(fun k hk=>by simpa [SV.ids,SV1.ids,Atom.ids] using hk),rfl,⟨_,rfl,rfl,rfl⟩,(fun i b h=>by simp[bR,PArg.blk] at h),fun kd ty xs o n c rest h=>by cases h;exact⟨_,rfl,bE _ _ _ _⟩⟩)
 (fun ps r e p cap h hp hi=>by
  unfold bspec at h
  split at h<;>cases h
  exact Runs.aH ah mixed (bex _ _ _ _ _ _) ⟨by omega,hp.1,hp.2.1,trivial⟩ (aD.ret (bres _ _ _ _ _ _) ⟨rfl,brow _ _ _ _ _ _⟩))
theorem buf_fr {G:Glob}:∀m fr fr' args,(bufC (G:=G)).spec m fr args=none→(bufC (G:=G)).spec m fr' args=none:=fun _ _ _ _ h=>Con.parts_fr _ _ _ _ _ _ _ _ _ _ _ _ _ _ h
def inD:Dec Tryz.prog GroA:=Dec.gro Tryz.prog .u8 true (fun x=> .o (.a (.slg 0 (x.n+4)))) (fun x=> .upd x.ty (.gro .u8 (x.xs++b4 x.v) x.lo none)) (fun x=>[x.k= .i64,x.n=x.xs.length,x.n+4≤x.lo])
 (fun x=>⟨rfl,rfl,rfl,fun k hk=>by simpa [SV.ids,SV1.ids,Atom.ids] using hk⟩)
noncomputable def groC {G:Glob}:Con Tryz.prog G:=Con.hand ah 161 fn Tryz.func161 (by kernel_rfl) (c:=body) (by kernel_rfl) inD
 (fun x hc hi=>by
  obtain⟨xs,n,lo,hi',ty,k,v⟩:=x
  obtain⟨h1,h2,h3,_⟩:=hc
  have hi:hi'.isNone=true:=hi
  cases hi' with
  | some h=>cases hi
  | none=>
   cases h1
   exact Runs.aH ah mixed (iex xs ty n lo v) ⟨by omega,h2,h3,trivial⟩ (aD.ret (ires xs ty n lo v) ⟨rfl,irow xs ty n lo v⟩))
theorem gro_fr {G:Glob}:∀m fr fr' args,(groC (G:=G)).spec m fr args=none→(groC (G:=G)).spec m fr' args=none:=fun _ _ _ _ h=>Con.hand_fr _ _ _ _ _ _ _ _ _ _ _ _ h
def bsD:Dec Tryz.prog GroA:=Dec.gro Tryz.prog .u8 false (fun x=> .o (.a (.slg 0 (x.n+4)))) (fun x=> .new 5 (.gro .u8 (x.xs++b4 x.v) (x.n+4) none)) (fun x=>[x.k= .i64,x.n=x.xs.length,∀h,x.hi=some h→h≤x.n+4,x.n+4≤140737488355328])
 (fun x=>⟨rfl,rfl⟩)
noncomputable def bsC {G:Glob}:Con Tryz.prog G:=Con.hand ah 161 fn Tryz.func161 (by kernel_rfl) (c:=body) (by kernel_rfl) bsD
 (fun x hc hi=>by
  obtain⟨xs,n,lo,hi',ty,k,v⟩:=x
  obtain⟨h1,h2,h3,h4,_⟩:=hc
  have hi:hi'.isNone=false:=hi
  cases hi' with
  | none=>cases hi
  | some h=>
   cases h1
   exact Runs.aH ah mixed (gex xs ty n lo h v) ⟨by omega,h2,h3 h rfl,room8 _ h4,trivial⟩ (aD.ret (gres xs ty n lo h v) ⟨2,rfl,grow xs ty n lo h v⟩))
end four
noncomputable def four_con {G:Glob}:Con Tryz.prog G:=Con.or four.nilC (Con.or four.bufC (Con.or four.groC four.bsC rfl four.gro_fr) rfl four.buf_fr) rfl four.nil_fr
end Go.Proofs.YtbfndladaldajaaGreatDoor
namespace Go.Proofs.YtbfndladaldajaaGreatDoor
open Go Go.Eng Go.RowKit
set_option linter.unusedVariables false
set_option linter.unusedSimpArgs false
set_option maxRecDepth 100000
def num8 (v:Int):List Int:=[IntKind.u8.wrap (v.fdiv 72057594037927936),IntKind.u8.wrap (v.fdiv 281474976710656),IntKind.u8.wrap (v.fdiv 1099511627776),IntKind.u8.wrap (v.fdiv 4294967296),IntKind.u8.wrap (v.fdiv 16777216),IntKind.u8.wrap (v.fdiv 65536),IntKind.u8.wrap (v.fdiv 256),IntKind.u8.wrap (v.fdiv 1)]
def numH (v:Int):Int:=IntKind.i64.wrap (v.fdiv 4294967296)
def numL (v:Int):Int:=IntKind.i64.wrap (IntKind.u32.wrap v)
theorem num8_eq {v:Int} (h0:0≤v) (h1:v<18446744073709551616):b4 (numH v)++b4 (numL v)=num8 v:=by
 have e1:numH v=v/4294967296:=by
  unfold numH
  rw[Int.fdiv_eq_ediv_of_nonneg _ (by decide),wi64 _ (by omega) (by omega)]
 have e2:numL v=v%4294967296:=by
  unfold numL
  rw[wu32,wi64 _ (by omega) (by omega)]
 unfold b4 num8
 rw[e1,e2]
 simp only[Int.fdiv_eq_ediv_of_nonneg _ (show(0:Int)≤16777216 by decide),Int.fdiv_eq_ediv_of_nonneg _ (show(0:Int)≤65536 by decide),Int.fdiv_eq_ediv_of_nonneg _ (show(0:Int)≤256 by decide),Int.fdiv_eq_ediv_of_nonneg _ (show(0:Int)≤72057594037927936 by decide),Int.fdiv_eq_ediv_of_nonneg _ (show(0:Int)≤281474976710656 by decide),Int.fdiv_eq_ediv_of_nonneg _ (show(0:Int)≤1099511627776 by decide),Int.fdiv_eq_ediv_of_nonneg _ (show(0:Int)≤4294967296 by decide),Int.fdiv_eq_ediv_of_nonneg _ (show(0:Int)≤1 by decide),wu8,List.cons_append,List.nil_append,List.cons.injEq,and_true]
 exact⟨by omega,by omega,by omega,trivial,by omega,by omega,by omega,by omega⟩
namespace rnum
variable {G:Glob}
noncomputable abbrev fn:=Tryz.f107
noncomputable def body:Code:=bS fn
noncomputable def e (G:Glob) (v:Int):St:=outS ([]:Cons Tryz.prog G) tys 100 body ⟨aA fn [.o (.a (.v (.int .u64 v)))],[],[]⟩
theorem ex (v:Int):exec ([]:Cons Tryz.prog G) tys 100 body ⟨aA fn [.o (.a (.v (.int .u64 v)))],[],[]⟩=some (.ret,⟨(e G v).tm,(e G v).mem,[]⟩,[(0:Int)≤8,(8:Int)≤8,Room Tryz.prog 5 8,(0:Int)≤0,(0:Int)<8,(1:Nat)≤8,(0:Int)≤1,(1:Int)<8,(2:Nat)≤8,(0:Int)≤2,(2:Int)<8,(3:Nat)≤8,(0:Int)≤3,(3:Int)<8,(4:Nat)≤8,(0:Int)≤4,(4:Int)<8,(5:Nat)≤8,(0:Int)≤5,(5:Int)<8,(6:Nat)≤8,(0:Int)≤6,(6:Int)<8,(7:Nat)≤8,(0:Int)≤7,(7:Int)<8,(8:Nat)≤8]):=by kernel_rfl
theorem res (v:Int):eRes tys (e G v).tm (fun k=>(e G v).mem[k]?) fn.results.toList=some [.a (.sld 0 0 0 8 8)]:=by kernel_rfl
theorem row (v:Int):(e G v).mem[0]? =some ⟨true,5,.run .u8 (num8 v)⟩:=by kernel_rfl
def spec:List PArg→Option (SV × LEff × Cst)
 | [.val (.o (.a (.v (.int .u64 v))))]=>some (.o (.a (.sld 0 0 0 8 8)),.new 5 (.run .u8 (num8 v)),[])
 | _=>none
end rnum
noncomputable def rnum_con {G:Glob}:Con Tryz.prog G:=Con.parts ah 107 rnum.fn Tryz.func107 (by kernel_rfl) (c:=rnum.body) (by kernel_rfl) [.val] rnum.spec
 (fun ps r e p h hp=>by
  unfold rnum.spec at h
  split at h<;>cases h
  exact⟨rfl,fun b hb=>by cases hb⟩)
 (fun ps r e p cap h hp hi=>by
  unfold rnum.spec at h
  split at h<;>cases h
  exact Runs.aH ah mixed (rnum.ex _) ⟨by decide,by decide,room8 _ (by omega),by decide,by decide,by decide,by decide,by decide,by decide,by decide,by decide,by decide,by decide,by decide,by decide,by decide,by decide,by decide,by decide,by decide,by decide,by decide,by decide,by decide,by decide,by decide,by decide,trivial⟩ (aD.ret (rnum.res _) ⟨0,rfl,rnum.row _⟩))
namespace num
variable {G:Glob}
noncomputable abbrev fn:=Tryz.f105
noncomputable def body:Code:=bS fn
noncomputable def Γ:Cons Tryz.prog G:=[four_con]
noncomputable def R1:Code:=cs1 (csuf 1 body)
noncomputable def T:Code:=cs2 (csuf 1 body)
noncomputable def i1:Nat:=match R1 with | .region i _ _=>i | _=>0
theorem suf_eq:csuf 1 body= .seq (.region i1 (opsOf R1) false) T:=by kernel_rfl
def M0 (v:Int):List (Option SV):=aJ 11 0 [(0,.o (.a (.v (.int .u64 v))))]
def M1 (v:Int):List (Option SV):=aJ 11 0 [(0,.o (.a (.v (.int .u64 v)))),(6,.o (.a (.slg 0 4)))]
def M2 (b:Nat):List (Option SV):=aJ 11 0 [(2,.o (.a (.slg b 8)))]
section
variable (v:Int)
def m1 (lo:Nat) (hi:Option Nat):List Blk:=[⟨true,5,.gro .u8 (b4 (numH v)) lo hi⟩]
def mI:List Blk:=[⟨true,5,.gro .u8 (b4 (numH v)++b4 (numL v)) 8 none⟩]
def mG:List Blk:=[⟨true,5,.gro .u8 (b4 (numH v)) 4 (some 8)⟩,⟨true,5,.gro .u8 (b4 (numH v)++b4 (numL v)) 8 none⟩]
theorem ids0:aF 0 (M0 v) []=true:=by kernel_rfl
theorem ids1 (lo:Nat) (hi:Option Nat):aF (m1 v lo hi).length (M1 v) (m1 v lo hi)=true:=by kernel_rfl
theorem idsI:aF (mI v).length (M2 0) (mI v)=true:=by kernel_rfl
theorem idsG:aF (mG v).length (M2 1) (mG v)=true:=by kernel_rfl
theorem s0:outX ([]:List Blk).length (M0 v) (exec (Γ (G:=G)) tys 100 (cpre 1 body) ⟨aA fn [.o (.a (.v (.int .u64 v)))],[],[]⟩)=some (.normal,live (M0 v),(M0 v).length,[],[]):=by kernel_rfl
theorem p1 (g:Nat→SV):outXL (m1 v 4 none).length (M1 v) (bV (Γ (G:=G)) tys (opsOf R1).toList ((opsOf R1).toList.take 4) ⟨fill g 0 (M0 v),[],[]⟩)=some (live (M1 v),(M1 v).length,m1 v 4 none,[]):=by kernel_rfl
theorem pI (g:Nat→SV):outXL (mI v).length (M2 0) (bV (Γ (G:=G)) tys (opsOf R1).toList (((opsOf R1).toList.drop 4).take 5) ⟨fill g 0 (M1 v),m1 v 8 none,[]⟩)=some (live (M2 0),(M2 0).length,mI v,[IntKind.i64= .i64,4=(b4 (numH v)).length,4+4≤8]):=by kernel_rfl
theorem pG (g:Nat→SV):outXL (mG v).length (M2 1) (bV (Γ (G:=G)) tys (opsOf R1).toList (((opsOf R1).toList.drop 4).take 5) ⟨fill g 0 (M1 v),m1 v 4 (some 8),[]⟩)=some (live (M2 1),(M2 1).length,mG v,[IntKind.i64= .i64,4=(b4 (numH v)).length,∀h,some 8=some h→h≤4+4,4+4≤140737488355328]):=by kernel_rfl
end
theorem nil5:((opsOf R1).toList.drop 4).drop 5=[]:=by kernel_rfl
theorem T_eq:T= .ret:=by kernel_rfl
theorem resI (v:Int) (g:Nat→SV):eRes tys (fill g 0 (M2 0)) (fun k=>(mI v)[k]?) fn.results.toList=some [.a (.slg 0 8)]:=by kernel_rfl
theorem resG (v:Int) (g:Nat→SV):eRes tys (fill g 0 (M2 1)) (fun k=>(mG v)[k]?) fn.results.toList=some [.a (.slg 1 8)]:=by kernel_rfl
theorem walk (v:Int):aG Tryz.prog G 0 body (aA fn [.o (.a (.v (.int .u64 v)))]) [] (aD tys fn (aX (.o (.a (.slg 0 8))) (.new 5 (.gro .u8 (b4 (numH v)++b4 (numL v)) 8 none)))):=by
 refine Runs.bI ah mixed 1 (s0 v) trivial (ids0 v) rfl fun g=> ?_
 rw[suf_eq]
 refine Runs.seq (Runs.region ?_)
 refine aR.ak ah 4 (p1 v g) trivial (ids1 v 4 none) rfl fun g=> ?_
 refine aR.room 0 8 (own:=true) (ty:=5) (kd:= .u8) (xs:=b4 (numH v)) (lo:=4) rfl ?_ ?_
 ·refine aR.ak ah 5 (pI v g) ⟨rfl,rfl,by omega,trivial⟩ (idsI v) rfl fun g=> ?_
  rw[nil5]
  refine aR.nil ?_
  show aG _ _ _ T _ _ _
  rw[T_eq]
  exact Runs.aH (Γ:=Γ) (n:=1) (orc:=[]) ah mixed rfl trivial (aD.ret (resI v g) ⟨0,rfl,rfl⟩)
 ·refine aR.ak ah 5 (pG v g) ⟨rfl,rfl,fun h hh=>by cases hh;omega,by omega,trivial⟩ (idsG v) rfl fun g=> ?_
  rw[nil5]
  refine aR.nil ?_
  show aG _ _ _ T _ _ _
  rw[T_eq]
  exact Runs.aH (Γ:=Γ) (n:=1) (orc:=[]) ah mixed rfl trivial (aD.ret (resG v g) ⟨1,rfl,rfl⟩)
def spec:List PArg→Option (SV × LEff × Cst)
 | [.val (.o (.a (.v (.int .u64 v))))]=>some (.o (.a (.slg 0 8)),.new 5 (.gro .u8 (b4 (numH v)++b4 (numL v)) 8 none),[])
 | _=>none
end num
noncomputable def num_con {G:Glob}:Con Tryz.prog G:=Con.parts ah 105 num.fn Tryz.func105 (by kernel_rfl) (c:=num.body) (by kernel_rfl) [.val] num.spec
 (fun ps r e p h hp=>by
  unfold num.spec at h
  split at h<;>cases h
  exact⟨rfl,fun b hb=>by cases hb⟩)
 (fun ps r e p cap h hp hi=>by
  unfold num.spec at h
  split at h<;>cases h
  exact num.walk _)
end Go.Proofs.YtbfndladaldajaaGreatDoor
namespace Go.Proofs.YtbfndladaldajaaGreatDoor
open Go Go.Eng Go.RowKit
set_option linter.unusedVariables false
set_option linter.unusedSimpArgs false
set_option maxRecDepth 100000
def encR:List (List Int)→List Int
 | []=>[]
 | y::r=>b4 (y.length:Int)++(y++encR r)
def encB (ls:List (List Int)):List Int:=b4 (ls.length:Int)++encR ls
def encL:List (List Int)→Nat
 | []=>0
 | y::r=>4+y.length+encL r
def encT (ls:List (List Int)):Nat:=4+encL ls
theorem encR_len:∀ls,(encR ls).length=encL ls
 | []=>rfl
 | y::r=>by simp only[encR,encL,List.length_append,encR_len r,b4_len];omega
theorem encB_len (ls:List (List Int)):(encB ls).length=encT ls:=by simp only[encB,encT,List.length_append,encR_len,b4_len]
theorem put_buf (D ys:List Int) (r:Nat):putI (0+D.length) ys 0 (D++List.replicate (ys.length+r) 0)=(D++ys)++List.replicate r 0:=by
 rw[putI_spec _ _ _ (by simp only[List.length_append,List.length_replicate];omega),Nat.zero_add,List.take_left,←List.drop_drop,List.drop_left,List.append_assoc]
 congr 1
 rw[List.drop_replicate]
 congr 1
 congr 1
 omega
def putA:List (Nat × List Int)→Nat→List Int→List Int
 | [],_,xs=>xs
 | (k,y)::r,n,xs=>putA r (n+4+k) (putI (0+(n+4)) y 0 (putI (0+n) (b4 (k:Int)) 0 xs))
theorem putA_spec:∀(ls:List (List Int)) (D:List Int) (n:Nat),n=D.length→putA (ls.map fun y=>(y.length,y)) n (D++List.replicate (encL ls) 0)=D++encR ls
 | [],D,n,h=>by simp[putA,encL,encR]
 | y::r,D,n,h=>by
  subst h
  have e1:encL (y::r)=(b4 (y.length:Int)).length+(y.length+encL r):=by rw[b4_len];simp only[encL];omega
  simp only[List.map_cons,putA]
  rw[e1,put_buf D]
  have e2:D.length+4=(D++b4 (y.length:Int)).length:=by rw[List.length_append,b4_len]
  rw[e2,put_buf,putA_spec r _ _ (by simp only[List.length_append,b4_len])]
  simp only[encR,List.append_assoc]
theorem put_all (ls:List (List Int)):putA (ls.map fun y=>(y.length,y)) 4 (putI (0+0) (b4 (ls.length:Int)) 0 (List.replicate (encT ls) 0))=encB ls:=by
 have h:=put_buf [] (b4 (ls.length:Int)) (encL ls)
 simp only[List.nil_append,List.length_nil,b4_len] at h
 unfold encT
 rw[h,putA_spec ls _ 4 (by rw[b4_len])]
 rfl
theorem shp_cons {its:List Itm} {r:List Bool} (h:shapeI its=true::r):∃a t,its= .w a::t∧shapeI t=r:=by
 cases its with
 | nil=>cases h
 | cons x t=>
  simp only[shapeI,List.cons.injEq] at h
  cases x with
  | w a=>exact⟨a,t,rfl,h.2⟩
  | v a=>cases h.1
theorem shp_nil {its:List Itm} (h:shapeI its=[]):its=[]:=by
 cases its with
 | nil=>rfl
 | cons x t=>cases h
theorem dt (y:List Int) (n:Nat) (h:y.length=n):(y.drop 0).take n=y:=by rw[List.drop_zero,List.take_of_length_le (by omega)]
def encRes (ls:List (List Int)):SV:= .t [.a (.sld 0 0 0 (encT ls) (encT ls)),.a (.v (.int .i64 0))]
namespace enc
noncomputable abbrev fn:=Tryz.f104
noncomputable def body:Code:=bS fn
noncomputable def Γ {G:Glob}:Cons Tryz.prog G:=[four_con]
namespace k4
noncomputable def e (G:Glob) (y1:List Int) (n1:Nat) (t1:TypeId) (y2:List Int) (n2:Nat) (t2:TypeId) (y3:List Int) (n3:Nat) (t3:TypeId) (y4:List Int) (n4:Nat) (t4:TypeId) (ty:TypeId):St:=outS (Γ (G:=G)) tys 200 body ⟨aA fn [.o (.a (.slc 0 0 4 4))],[⟨false,ty,.lit [.slg 1 n1,.slg 2 n2,.slg 3 n3,.slg 4 n4]⟩,⟨false,t1,.pre .u8 y1⟩,⟨false,t2,.pre .u8 y2⟩,⟨false,t3,.pre .u8 y3⟩,⟨false,t4,.pre .u8 y4⟩],[(20,[.n ((4+4:Nat):Int),.n ((4+4+n1+4:Nat):Int),.n ((4+4+n1+4+n2+4:Nat):Int),.n ((4+4+n1+4+n2+4+n3+4:Nat):Int)]),(24,[.n (1048576-((4+4:Nat):Int)),.n (1048576-((4+4+n1+4:Nat):Int)),.n (1048576-((4+4+n1+4+n2+4:Nat):Int)),.n (1048576-((4+4+n1+4+n2+4+n3+4:Nat):Int))]),(25,[.b false,.b false,.b false,.b false]),(29,[.n ((4+4+n1:Nat):Int),.n ((4+4+n1+4+n2:Nat):Int),.n ((4+4+n1+4+n2+4+n3:Nat):Int),.n ((4+4+n1+4+n2+4+n3+4+n4:Nat):Int)])]⟩
def c (y1:List Int) (n1:Nat) (t1:TypeId) (y2:List Int) (n2:Nat) (t2:TypeId) (y3:List Int) (n3:Nat) (t3:TypeId) (y4:List Int) (n4:Nat) (t4:TypeId) (ty:TypeId):Cst:=[IntKind.i64.wrap (((4:Nat):Int)+4)=((4+4:Nat):Int),IntKind.i64.wrap (1048576-((4+4:Nat):Int))=1048576-((4+4:Nat):Int),decide (((n1:Nat):Int)>1048576-((4+4:Nat):Int))=false,IntKind.i64.wrap (((4+4:Nat):Int)+((n1:Nat):Int))=((4+4+n1:Nat):Int),IntKind.i64.wrap (((4+4+n1:Nat):Int)+4)=((4+4+n1+4:Nat):Int),IntKind.i64.wrap (1048576-((4+4+n1+4:Nat):Int))=1048576-((4+4+n1+4:Nat):Int),decide (((n2:Nat):Int)>1048576-((4+4+n1+4:Nat):Int))=false,IntKind.i64.wrap (((4+4+n1+4:Nat):Int)+((n2:Nat):Int))=((4+4+n1+4+n2:Nat):Int),IntKind.i64.wrap (((4+4+n1+4+n2:Nat):Int)+4)=((4+4+n1+4+n2+4:Nat):Int),IntKind.i64.wrap (1048576-((4+4+n1+4+n2+4:Nat):Int))=1048576-((4+4+n1+4+n2+4:Nat):Int),decide (((n3:Nat):Int)>1048576-((4+4+n1+4+n2+4:Nat):Int))=false,IntKind.i64.wrap (((4+4+n1+4+n2+4:Nat):Int)+((n3:Nat):Int))=((4+4+n1+4+n2+4+n3:Nat):Int),IntKind.i64.wrap (((4+4+n1+4+n2+4+n3:Nat):Int)+4)=((4+4+n1+4+n2+4+n3+4:Nat):Int),IntKind.i64.wrap (1048576-((4+4+n1+4+n2+4+n3+4:Nat):Int))=1048576-((4+4+n1+4+n2+4+n3+4:Nat):Int),decide (((n4:Nat):Int)>1048576-((4+4+n1+4+n2+4+n3+4:Nat):Int))=false,IntKind.i64.wrap (((4+4+n1+4+n2+4+n3+4:Nat):Int)+((n4:Nat):Int))=((4+4+n1+4+n2+4+n3+4+n4:Nat):Int),(0:Int)≤0,(0:Int)≤((4+4+n1+4+n2+4+n3+4+n4:Nat):Int),Room Tryz.prog 5 (4+4+n1+4+n2+4+n3+4+n4),0≤4+4+n1+4+n2+4+n3+4+n4,0+4≤4+4+n1+4+n2+4+n3+4+n4,0+0+4≤(List.replicate (4+4+n1+4+n2+4+n3+4+n4) (0:Int)).length,4≤4+4+n1+4+n2+4+n3+4+n4,4+4≤4+4+n1+4+n2+4+n3+4+n4,0+(4)+4≤(putI (0+0) (b4 ((4:Nat):Int)) 0 (List.replicate (4+4+n1+4+n2+4+n3+4+n4) (0:Int))).length,0+n1≤y1.length,4+4+n1≤4+4+n1+4+n2+4+n3+4+n4,0+(4+4)+n1≤(putI (0+(4)) (b4 ((n1:Nat):Int)) 0 (putI (0+0) (b4 ((4:Nat):Int)) 0 (List.replicate (4+4+n1+4+n2+4+n3+4+n4) (0:Int)))).length,4+4+n1≤4+4+n1+4+n2+4+n3+4+n4,4+4+n1+4≤4+4+n1+4+n2+4+n3+4+n4,0+(4+4+n1)+4≤(putI (0+(4+4)) ((y1.drop 0).take n1) 0 (putI (0+(4)) (b4 ((n1:Nat):Int)) 0 (putI (0+0) (b4 ((4:Nat):Int)) 0 (List.replicate (4+4+n1+4+n2+4+n3+4+n4) (0:Int))))).length,0+n2≤y2.length,4+4+n1+4+n2≤4+4+n1+4+n2+4+n3+4+n4,0+(4+4+n1+4)+n2≤(putI (0+(4+4+n1)) (b4 ((n2:Nat):Int)) 0 (putI (0+(4+4)) ((y1.drop 0).take n1) 0 (putI (0+(4)) (b4 ((n1:Nat):Int)) 0 (putI (0+0) (b4 ((4:Nat):Int)) 0 (List.replicate (4+4+n1+4+n2+4+n3+4+n4) (0:Int)))))).length,4+4+n1+4+n2≤4+4+n1+4+n2+4+n3+4+n4,4+4+n1+4+n2+4≤4+4+n1+4+n2+4+n3+4+n4,0+(4+4+n1+4+n2)+4≤(putI (0+(4+4+n1+4)) ((y2.drop 0).take n2) 0 (putI (0+(4+4+n1)) (b4 ((n2:Nat):Int)) 0 (putI (0+(4+4)) ((y1.drop 0).take n1) 0 (putI (0+(4)) (b4 ((n1:Nat):Int)) 0 (putI (0+0) (b4 ((4:Nat):Int)) 0 (List.replicate (4+4+n1+4+n2+4+n3+4+n4) (0:Int))))))).length,0+n3≤y3.length,4+4+n1+4+n2+4+n3≤4+4+n1+4+n2+4+n3+4+n4,0+(4+4+n1+4+n2+4)+n3≤(putI (0+(4+4+n1+4+n2)) (b4 ((n3:Nat):Int)) 0 (putI (0+(4+4+n1+4)) ((y2.drop 0).take n2) 0 (putI (0+(4+4+n1)) (b4 ((n2:Nat):Int)) 0 (putI (0+(4+4)) ((y1.drop 0).take n1) 0 (putI (0+(4)) (b4 ((n1:Nat):Int)) 0 (putI (0+0) (b4 ((4:Nat):Int)) 0 (List.replicate (4+4+n1+4+n2+4+n3+4+n4) (0:Int)))))))).length,4+4+n1+4+n2+4+n3≤4+4+n1+4+n2+4+n3+4+n4,4+4+n1+4+n2+4+n3+4≤4+4+n1+4+n2+4+n3+4+n4,0+(4+4+n1+4+n2+4+n3)+4≤(putI (0+(4+4+n1+4+n2+4)) ((y3.drop 0).take n3) 0 (putI (0+(4+4+n1+4+n2)) (b4 ((n3:Nat):Int)) 0 (putI (0+(4+4+n1+4)) ((y2.drop 0).take n2) 0 (putI (0+(4+4+n1)) (b4 ((n2:Nat):Int)) 0 (putI (0+(4+4)) ((y1.drop 0).take n1) 0 (putI (0+(4)) (b4 ((n1:Nat):Int)) 0 (putI (0+0) (b4 ((4:Nat):Int)) 0 (List.replicate (4+4+n1+4+n2+4+n3+4+n4) (0:Int))))))))).length,0+n4≤y4.length,4+4+n1+4+n2+4+n3+4+n4≤4+4+n1+4+n2+4+n3+4+n4,0+(4+4+n1+4+n2+4+n3+4)+n4≤(putI (0+(4+4+n1+4+n2+4+n3)) (b4 ((n4:Nat):Int)) 0 (putI (0+(4+4+n1+4+n2+4)) ((y3.drop 0).take n3) 0 (putI (0+(4+4+n1+4+n2)) (b4 ((n3:Nat):Int)) 0 (putI (0+(4+4+n1+4)) ((y2.drop 0).take n2) 0 (putI (0+(4+4+n1)) (b4 ((n2:Nat):Int)) 0 (putI (0+(4+4)) ((y1.drop 0).take n1) 0 (putI (0+(4)) (b4 ((n1:Nat):Int)) 0 (putI (0+0) (b4 ((4:Nat):Int)) 0 (List.replicate (4+4+n1+4+n2+4+n3+4+n4) (0:Int)))))))))).length]
section
variable {G:Glob} (y1:List Int) (n1:Nat) (t1:TypeId) (y2:List Int) (n2:Nat) (t2:TypeId) (y3:List Int) (n3:Nat) (t3:TypeId) (y4:List Int) (n4:Nat) (t4:TypeId) (ty:TypeId)
theorem ex:exec (Γ (G:=G)) tys 200 body ⟨aA fn [.o (.a (.slc 0 0 4 4))],[⟨false,ty,.lit [.slg 1 n1,.slg 2 n2,.slg 3 n3,.slg 4 n4]⟩,⟨false,t1,.pre .u8 y1⟩,⟨false,t2,.pre .u8 y2⟩,⟨false,t3,.pre .u8 y3⟩,⟨false,t4,.pre .u8 y4⟩],[(20,[.n ((4+4:Nat):Int),.n ((4+4+n1+4:Nat):Int),.n ((4+4+n1+4+n2+4:Nat):Int),.n ((4+4+n1+4+n2+4+n3+4:Nat):Int)]),(24,[.n (1048576-((4+4:Nat):Int)),.n (1048576-((4+4+n1+4:Nat):Int)),.n (1048576-((4+4+n1+4+n2+4:Nat):Int)),.n (1048576-((4+4+n1+4+n2+4+n3+4:Nat):Int))]),(25,[.b false,.b false,.b false,.b false]),(29,[.n ((4+4+n1:Nat):Int),.n ((4+4+n1+4+n2:Nat):Int),.n ((4+4+n1+4+n2+4+n3:Nat):Int),.n ((4+4+n1+4+n2+4+n3+4+n4:Nat):Int)])]⟩=some (.ret,⟨(e G y1 n1 t1 y2 n2 t2 y3 n3 t3 y4 n4 t4 ty ).tm,(e G y1 n1 t1 y2 n2 t2 y3 n3 t3 y4 n4 t4 ty ).mem,(e G y1 n1 t1 y2 n2 t2 y3 n3 t3 y4 n4 t4 ty ).orc⟩,c y1 n1 t1 y2 n2 t2 y3 n3 t3 y4 n4 t4 ty ):=by kernel_rfl
theorem res:eRes tys (e G y1 n1 t1 y2 n2 t2 y3 n3 t3 y4 n4 t4 ty ).tm (fun k=>(e G y1 n1 t1 y2 n2 t2 y3 n3 t3 y4 n4 t4 ty ).mem[k]?) fn.results.toList=some [.a (.sld 5 0 0 (4+4+n1+4+n2+4+n3+4+n4) (4+4+n1+4+n2+4+n3+4+n4)),.a (.v (.int .i64 0))]:=by kernel_rfl
theorem row:(e G y1 n1 t1 y2 n2 t2 y3 n3 t3 y4 n4 t4 ty ).mem[5]? =some ⟨true,5,.run .u8 (putA [(n1,(y1.drop 0).take n1),(n2,(y2.drop 0).take n2),(n3,(y3.drop 0).take n3),(n4,(y4.drop 0).take n4)] 4 (putI (0+0) (b4 ((4:Nat):Int)) 0 (List.replicate (4+4+n1+4+n2+4+n3+4+n4) 0)))⟩:=by kernel_rfl
end
theorem holds (y1:List Int) (n1:Nat) (t1:TypeId) (y2:List Int) (n2:Nat) (t2:TypeId) (y3:List Int) (n3:Nat) (t3:TypeId) (y4:List Int) (n4:Nat) (t4:TypeId) (ty:TypeId) (h1:y1.length=n1) (h2:y2.length=n2) (h3:y3.length=n3) (h4:y4.length=n4) (hT:4+4+n1+4+n2+4+n3+4+n4≤1048576):Holds (c y1 n1 t1 y2 n2 t2 y3 n3 t3 y4 n4 t4 ty ):=⟨by rw[wi64 _ (by omega) (by omega)]<;>omega,by rw[wi64 _ (by omega) (by omega)]<;>omega,decide_eq_false (by omega),by rw[wi64 _ (by omega) (by omega)]<;>omega,by rw[wi64 _ (by omega) (by omega)]<;>omega,by rw[wi64 _ (by omega) (by omega)]<;>omega,decide_eq_false (by omega),by rw[wi64 _ (by omega) (by omega)]<;>omega,by rw[wi64 _ (by omega) (by omega)]<;>omega,by rw[wi64 _ (by omega) (by omega)]<;>omega,decide_eq_false (by omega),by rw[wi64 _ (by omega) (by omega)]<;>omega,by rw[wi64 _ (by omega) (by omega)]<;>omega,by rw[wi64 _ (by omega) (by omega)]<;>omega,decide_eq_false (by omega),by rw[wi64 _ (by omega) (by omega)]<;>omega,by decide,by omega,room8 _ (by omega),by omega,by omega,by simp only[bE,List.length_replicate];omega,by omega,by omega,by simp only[bE,List.length_replicate];omega,by omega,by omega,by simp only[bE,List.length_replicate];omega,by omega,by omega,by simp only[bE,List.length_replicate];omega,by omega,by omega,by simp only[bE,List.length_replicate];omega,by omega,by omega,by simp only[bE,List.length_replicate];omega,by omega,by omega,by simp only[bE,List.length_replicate];omega,by omega,by omega,by simp only[bE,List.length_replicate];omega,by omega,by omega,by simp only[bE,List.length_replicate];omega,trivial⟩
theorem run {G:Glob} (y1:List Int) (n1:Nat) (t1:TypeId) (y2:List Int) (n2:Nat) (t2:TypeId) (y3:List Int) (n3:Nat) (t3:TypeId) (y4:List Int) (n4:Nat) (t4:TypeId) (ty:TypeId) (h1:y1.length=n1) (h2:y2.length=n2) (h3:y3.length=n3) (h4:y4.length=n4) (hT:encT [y1,y2,y3,y4]≤1048576):
  aG Tryz.prog G 5 body (aA fn [.o (.a (.slc 0 0 4 4))]) [⟨false,ty,.lit [.slg 1 n1,.slg 2 n2,.slg 3 n3,.slg 4 n4]⟩,⟨false,t1,.pre .u8 y1⟩,⟨false,t2,.pre .u8 y2⟩,⟨false,t3,.pre .u8 y3⟩,⟨false,t4,.pre .u8 y4⟩] (aD tys fn (aX (encRes [y1,y2,y3,y4]) (.new 5 (.run .u8 (encB [y1,y2,y3,y4]))))):=by
 have hE:encT [y1,y2,y3,y4]=4+4+n1+4+n2+4+n3+4+n4:=by simp only[encT,encL];omega
 have hr:=row (G:=G) y1 n1 t1 y2 n2 t2 y3 n3 t3 y4 n4 t4 ty
 rw[dt y1 n1 h1,dt y2 n2 h2,dt y3 n3 h3,dt y4 n4 h4] at hr
 refine Runs.aH ah mixed (ex y1 n1 t1 y2 n2 t2 y3 n3 t3 y4 n4 t4 ty ) (holds y1 n1 t1 y2 n2 t2 y3 n3 t3 y4 n4 t4 ty h1 h2 h3 h4 (by omega)) (aD.ret (res y1 n1 t1 y2 n2 t2 y3 n3 t3 y4 n4 t4 ty ) ⟨5,?_,?_⟩)
 ·unfold encRes
  rw[hE]
  rfl
 ·have h:=put_all [y1,y2,y3,y4]
  rw[hE] at h
  rw[hr,←h,←h1,←h2,←h3,←h4]
  rfl
theorem good (ls:List (List Int)):match (LEff.new 5 (.run .u8 (encB ls))) with | .none=>(encRes ls).ids=[] | .new _ row=>row.ids=[] | .upd _ _=>False:=rfl
def D:Dec Tryz.prog LstA:=Dec.list Tryz.prog .u8 [true,true,true,true] encRes (fun ls=> .new 5 (.run .u8 (encB ls))) (fun ls=>[encT ls≤1048576]) good
noncomputable def con {G:Glob}:Con Tryz.prog G:=Con.hand ah 104 fn Tryz.func104 (by kernel_rfl) (c:=body) (by kernel_rfl) D
 (fun x hc hi=>by
  obtain⟨its,m,ty⟩:=x
  obtain⟨hs,hn,hy⟩:=hi
  have hp:=(aL hc).2.1
  simp only at hs hn hy hp
  obtain⟨a1,t1,rfl,q1⟩:=shp_cons hs
  obtain⟨a2,t2,rfl,q2⟩:=shp_cons q1
  obtain⟨a3,t3,rfl,q3⟩:=shp_cons q2
  obtain⟨a4,t4,rfl,q4⟩:=shp_cons q3
  obtain rfl:=shp_nil q4
  have hn:m=4:=hn
  subst hn
  exact run a1.ys a1.n a1.ty a2.ys a2.n a2.ty a3.ys a3.n a3.ty a4.ys a4.n a4.ty ty (hy a1 (by simp[bq])) (hy a2 (by simp[bq])) (hy a3 (by simp[bq])) (hy a4 (by simp[bq])) hp)
end k4
end enc
end Go.Proofs.YtbfndladaldajaaGreatDoor
namespace Go.Proofs.YtbfndladaldajaaGreatDoor
open Go Go.Eng Go.RowKit
set_option linter.unusedVariables false
set_option linter.unusedSimpArgs false
set_option maxRecDepth 100000
def rencRes (ls:List (List Int)):SV:= .t [.a (.slg 0 (encT ls)),.a (.v (.int .i64 0))]
namespace renc
noncomputable abbrev fn:=Tryz.f106
noncomputable def body:Code:=bS fn
noncomputable def Γ {G:Glob}:Cons Tryz.prog G:=[rfour_con]
noncomputable def A14:Code:=cs1 (cs1 (csuf 5 body))
noncomputable def L:Code:=cL (cB (cs2 (cs1 (csuf 5 body))))
noncomputable def D:Code:=cs2 (csuf 5 body)
theorem suf_eq:csuf 5 body= .seq (.seq A14 (.block 2 (.loop L))) D:=by kernel_rfl
noncomputable def B3:Code:=cB (cs1 (csuf 2 L))
noncomputable def R17:Code:=cs1 (csuf 1 B3)
noncomputable def R18:Code:=cs2 (csuf 1 B3)
noncomputable def R19:Code:=cs2 (csuf 2 L)
noncomputable def i17:Nat:=match R17 with | .region i _ _=>i | _=>0
noncomputable def i18:Nat:=match R18 with | .region i _ _=>i | _=>0
theorem L_eq:csuf 2 L= .seq (.block 3 B3) R19:=by kernel_rfl
theorem B3_eq:csuf 1 B3= .seq (.region i17 (opsOf R17) false) (.region i18 (opsOf R18) false):=by kernel_rfl
theorem nil17:(opsOf R17).toList.drop 9=[]:=by kernel_rfl
theorem nil18:(opsOf R18).toList.drop 7=[]:=by kernel_rfl
namespace k4
section
variable (y1:List Int) (n1:Nat) (t1:TypeId) (y2:List Int) (n2:Nat) (t2:TypeId) (y3:List Int) (n3:Nat) (t3:TypeId) (y4:List Int) (n4:Nat) (t4:TypeId) (ty:TypeId)
def args:List Blk:=[⟨false,ty,.lit [.slg 1 n1,.slg 2 n2,.slg 3 n3,.slg 4 n4]⟩,⟨false,t1,.pre .u8 y1⟩,⟨false,t2,.pre .u8 y2⟩,⟨false,t3,.pre .u8 y3⟩,⟨false,t4,.pre .u8 y4⟩]
def mem0:List Blk:=args y1 n1 t1 y2 n2 t2 y3 n3 t3 y4 n4 t4 ty++[⟨true,5,.lit ((b4 4).map (int1 .u8))⟩]
def mem (D:List Int) (lo:Nat) (hi:Option Nat):List Blk:=args y1 n1 t1 y2 n2 t2 y3 n3 t3 y4 n4 t4 ty++[⟨true,5,.gro .u8 D lo hi⟩]
end
def M0:List (Option SV):=aJ 61 0 [(0,.o (.a (.slc 0 0 4 4))),(6,.o (.a (.slc 5 0 4 4)))]
def M1 (i:Int):List (Option SV):=aJ 61 0 [(0,.o (.a (.slc 0 0 4 4))),(6,.o (.a (.slc 5 0 4 4))),(41,.o (.a (.v (.int .i64 4)))),(42,.o (.a (.v (.int .i64 i))))]
def M2 (i:Int) (n:Nat):List (Option SV):=aJ 61 0 [(0,.o (.a (.slc 0 0 4 4))),(6,.o (.a (.slg 5 n))),(41,.o (.a (.v (.int .i64 4)))),(42,.o (.a (.v (.int .i64 i))))]
def N1 (i:Int):List (Option SV):=aJ 61 0 [(0,.o (.a (.slc 0 0 4 4))),(6,.o (.a (.slc 5 0 4 4))),(7,.o (.a (.v (.int .i64 i)))),(41,.o (.a (.v (.int .i64 4)))),(42,.o (.a (.v (.int .i64 i))))]
def N2 (i:Int) (n:Nat):List (Option SV):=aJ 61 0 [(0,.o (.a (.slc 0 0 4 4))),(6,.o (.a (.slg 5 n))),(7,.o (.a (.v (.int .i64 i)))),(41,.o (.a (.v (.int .i64 4)))),(42,.o (.a (.v (.int .i64 i))))]
def MZ (n:Nat):List (Option SV):=aJ 61 0 [(6,.o (.a (.slg 5 n)))]
section
variable (y1:List Int) (n1:Nat) (t1:TypeId) (y2:List Int) (n2:Nat) (t2:TypeId) (y3:List Int) (n3:Nat) (t3:TypeId) (y4:List Int) (n4:Nat) (t4:TypeId) (ty:TypeId)
theorem ids0:aF (mem0 y1 n1 t1 y2 n2 t2 y3 n3 t3 y4 n4 t4 ty ).length (M0) (mem0 y1 n1 t1 y2 n2 t2 y3 n3 t3 y4 n4 t4 ty )=true:=by kernel_rfl
theorem ids1 (i:Int):aF (mem0 y1 n1 t1 y2 n2 t2 y3 n3 t3 y4 n4 t4 ty ).length (M1 i) (mem0 y1 n1 t1 y2 n2 t2 y3 n3 t3 y4 n4 t4 ty )=true:=by kernel_rfl
theorem idsN1 (i:Int):aF (mem0 y1 n1 t1 y2 n2 t2 y3 n3 t3 y4 n4 t4 ty ).length (N1 i) (mem0 y1 n1 t1 y2 n2 t2 y3 n3 t3 y4 n4 t4 ty )=true:=by kernel_rfl
theorem ids2 (D:List Int) (n lo:Nat) (hi:Option Nat) (i:Int):aF (mem y1 n1 t1 y2 n2 t2 y3 n3 t3 y4 n4 t4 ty D lo hi).length (M2 i n) (mem y1 n1 t1 y2 n2 t2 y3 n3 t3 y4 n4 t4 ty D lo hi)=true:=by kernel_rfl
theorem idsN2 (D:List Int) (n lo:Nat) (hi:Option Nat) (i:Int):aF (mem y1 n1 t1 y2 n2 t2 y3 n3 t3 y4 n4 t4 ty D lo hi).length (N2 i n) (mem y1 n1 t1 y2 n2 t2 y3 n3 t3 y4 n4 t4 ty D lo hi)=true:=by kernel_rfl
theorem idsZ (D:List Int) (n lo:Nat) (hi:Option Nat):aF (mem y1 n1 t1 y2 n2 t2 y3 n3 t3 y4 n4 t4 ty D lo hi).length (MZ n) (mem y1 n1 t1 y2 n2 t2 y3 n3 t3 y4 n4 t4 ty D lo hi)=true:=by kernel_rfl
end
def c0 (y1:List Int) (n1:Nat) (t1:TypeId) (y2:List Int) (n2:Nat) (t2:TypeId) (y3:List Int) (n3:Nat) (t3:TypeId) (y4:List Int) (n4:Nat) (t4:TypeId) (ty:TypeId):Cst:=[decide (((n1:Nat):Int)>1048576)=false,IntKind.i64.wrap (((4:Nat):Int)+4)=((4+4:Nat):Int),IntKind.i64.wrap (((4+4:Nat):Int)+((n1:Nat):Int))=((4+4+n1:Nat):Int),decide (((4+4+n1:Nat):Int)>1048576)=false,decide (((n2:Nat):Int)>1048576)=false,IntKind.i64.wrap (((4+4+n1:Nat):Int)+4)=((4+4+n1+4:Nat):Int),IntKind.i64.wrap (((4+4+n1+4:Nat):Int)+((n2:Nat):Int))=((4+4+n1+4+n2:Nat):Int),decide (((4+4+n1+4+n2:Nat):Int)>1048576)=false,decide (((n3:Nat):Int)>1048576)=false,IntKind.i64.wrap (((4+4+n1+4+n2:Nat):Int)+4)=((4+4+n1+4+n2+4:Nat):Int),IntKind.i64.wrap (((4+4+n1+4+n2+4:Nat):Int)+((n3:Nat):Int))=((4+4+n1+4+n2+4+n3:Nat):Int),decide (((4+4+n1+4+n2+4+n3:Nat):Int)>1048576)=false,decide (((n4:Nat):Int)>1048576)=false,IntKind.i64.wrap (((4+4+n1+4+n2+4+n3:Nat):Int)+4)=((4+4+n1+4+n2+4+n3+4:Nat):Int),IntKind.i64.wrap (((4+4+n1+4+n2+4+n3+4:Nat):Int)+((n4:Nat):Int))=((4+4+n1+4+n2+4+n3+4+n4:Nat):Int),decide (((4+4+n1+4+n2+4+n3+4+n4:Nat):Int)>1048576)=false,decide (((4+4+n1+4+n2+4+n3+4+n4:Nat):Int)>1048576)=false]
theorem holds0 (y1:List Int) (n1:Nat) (t1:TypeId) (y2:List Int) (n2:Nat) (t2:TypeId) (y3:List Int) (n3:Nat) (t3:TypeId) (y4:List Int) (n4:Nat) (t4:TypeId) (ty:TypeId) (hT:4+4+n1+4+n2+4+n3+4+n4≤1048576):Holds (c0 y1 n1 t1 y2 n2 t2 y3 n3 t3 y4 n4 t4 ty ):=⟨decide_eq_false (by omega),by rw[wi64 _ (by omega) (by omega)]<;>omega,by rw[wi64 _ (by omega) (by omega)]<;>omega,decide_eq_false (by omega),decide_eq_false (by omega),by rw[wi64 _ (by omega) (by omega)]<;>omega,by rw[wi64 _ (by omega) (by omega)]<;>omega,decide_eq_false (by omega),decide_eq_false (by omega),by rw[wi64 _ (by omega) (by omega)]<;>omega,by rw[wi64 _ (by omega) (by omega)]<;>omega,decide_eq_false (by omega),decide_eq_false (by omega),by rw[wi64 _ (by omega) (by omega)]<;>omega,by rw[wi64 _ (by omega) (by omega)]<;>omega,decide_eq_false (by omega),decide_eq_false (by omega),trivial⟩
section
variable {G:Glob} (y1:List Int) (n1:Nat) (t1:TypeId) (y2:List Int) (n2:Nat) (t2:TypeId) (y3:List Int) (n3:Nat) (t3:TypeId) (y4:List Int) (n4:Nat) (t4:TypeId) (ty:TypeId)
theorem s0:outX (mem0 y1 n1 t1 y2 n2 t2 y3 n3 t3 y4 n4 t4 ty ).length M0 (exec (Γ (G:=G)) tys 200 (cpre 5 body) ⟨aA fn [.o (.a (.slc 0 0 4 4))],args y1 n1 t1 y2 n2 t2 y3 n3 t3 y4 n4 t4 ty ,[(18,[.b false,.b false,.b false,.b false]),(20,[.n ((4+4:Nat):Int),.n ((4+4+n1+4:Nat):Int),.n ((4+4+n1+4+n2+4:Nat):Int),.n ((4+4+n1+4+n2+4+n3+4:Nat):Int)]),(26,[.n ((4+4+n1:Nat):Int),.n ((4+4+n1+4+n2:Nat):Int),.n ((4+4+n1+4+n2+4+n3:Nat):Int),.n ((4+4+n1+4+n2+4+n3+4+n4:Nat):Int)]),(28,[.b false,.b false,.b false,.b false]),(35,[.b false])]⟩)=some (.normal,live M0,M0.length,mem0 y1 n1 t1 y2 n2 t2 y3 n3 t3 y4 n4 t4 ty ,c0 y1 n1 t1 y2 n2 t2 y3 n3 t3 y4 n4 t4 ty ):=by kernel_rfl
theorem a14 (g:Nat→SV):outX (mem0 y1 n1 t1 y2 n2 t2 y3 n3 t3 y4 n4 t4 ty ).length (M1 0) (exec (Γ (G:=G)) tys 200 A14 ⟨fill g 0 (M0),mem0 y1 n1 t1 y2 n2 t2 y3 n3 t3 y4 n4 t4 ty ,[]⟩)=some (.normal,live (M1 0),(M1 0).length,mem0 y1 n1 t1 y2 n2 t2 y3 n3 t3 y4 n4 t4 ty ,[]):=by kernel_rfl
theorem hd0 (g:Nat→SV):outX (mem0 y1 n1 t1 y2 n2 t2 y3 n3 t3 y4 n4 t4 ty ).length (M1 0) (exec (Γ (G:=G)) tys 100 (cpre 2 L) ⟨fill g 0 (M1 0),mem0 y1 n1 t1 y2 n2 t2 y3 n3 t3 y4 n4 t4 ty ,[]⟩)=some (.normal,live (M1 0),(M1 0).length,mem0 y1 n1 t1 y2 n2 t2 y3 n3 t3 y4 n4 t4 ty ,[]):=by kernel_rfl
theorem x0 (g:Nat→SV):outX (mem0 y1 n1 t1 y2 n2 t2 y3 n3 t3 y4 n4 t4 ty ).length (N1 0) (exec (Γ (G:=G)) tys 100 (cpre 1 B3) ⟨fill g 0 (M1 0),mem0 y1 n1 t1 y2 n2 t2 y3 n3 t3 y4 n4 t4 ty ,[]⟩)=some (.normal,live (N1 0),(N1 0).length,mem0 y1 n1 t1 y2 n2 t2 y3 n3 t3 y4 n4 t4 ty ,[]):=by kernel_rfl
theorem p0 (g:Nat→SV):outNL [0,1,2,3,4,7] (N2 0 (4+4)) (bV (Γ (G:=G)) tys (opsOf R17).toList ((opsOf R17).toList.take 9) ⟨fill g 0 (N1 0),mem0 y1 n1 t1 y2 n2 t2 y3 n3 t3 y4 n4 t4 ty ,[]⟩)=some ((live (N2 0 (4+4))).map (SV.ren (piF [0,1,2,3,4,7])),(N2 0 (4+4)).length,(mem y1 n1 t1 y2 n2 t2 y3 n3 t3 y4 n4 t4 ty (b4 4++b4 ((n1:Nat):Int)) (4+4) none).map (fun b=>some (b.ren (piF [0,1,2,3,4,7]))),[0+4≤4,0+4≤4,4<4+4,Room Tryz.prog 5 (4+4)]):=by kernel_rfl
theorem r0 (D:List Int) (n:Nat) (g:Nat→SV):outXL (mem y1 n1 t1 y2 n2 t2 y3 n3 t3 y4 n4 t4 ty (D++((y1.drop 0).take n1)) (n+n1) none).length (N2 0 (n+n1)) (bV (Γ (G:=G)) tys (opsOf R18).toList ((opsOf R18).toList.take 7) ⟨fill g 0 (N2 0 n),mem y1 n1 t1 y2 n2 t2 y3 n3 t3 y4 n4 t4 ty D (n+n1) none,[]⟩)=some (live (N2 0 (n+n1)),(N2 0 (n+n1)).length,mem y1 n1 t1 y2 n2 t2 y3 n3 t3 y4 n4 t4 ty (D++((y1.drop 0).take n1)) (n+n1) none,[0+n1≤y1.length,n=D.length,n+n1≤n+n1]):=by kernel_rfl
theorem s0' (D:List Int) (n:Nat) (lo:Nat) (g:Nat→SV):outNL [0,1,2,3,4,6] (N2 0 (n+n1)) (bV (Γ (G:=G)) tys (opsOf R18).toList ((opsOf R18).toList.take 7) ⟨fill g 0 (N2 0 n),mem y1 n1 t1 y2 n2 t2 y3 n3 t3 y4 n4 t4 ty D lo (some (n+n1)),[]⟩)=some ((live (N2 0 (n+n1))).map (SV.ren (piF [0,1,2,3,4,6])),(N2 0 (n+n1)).length,(mem y1 n1 t1 y2 n2 t2 y3 n3 t3 y4 n4 t4 ty (D++((y1.drop 0).take n1)) (n+n1) none).map (fun b=>some (b.ren (piF [0,1,2,3,4,6]))),[0+n1≤y1.length,n=D.length,n+n1≤n+n1,Room Tryz.prog 5 (n+n1)]):=by kernel_rfl
theorem e0 (D:List Int) (n:Nat) (lo:Nat) (g:Nat→SV):outX (mem y1 n1 t1 y2 n2 t2 y3 n3 t3 y4 n4 t4 ty D lo none).length (M2 1 n) (exec (Γ (G:=G)) tys 100 R19 ⟨fill g 0 (N2 0 n),mem y1 n1 t1 y2 n2 t2 y3 n3 t3 y4 n4 t4 ty D lo none,[]⟩)=some (.normal,live (M2 1 n),(M2 1 n).length,mem y1 n1 t1 y2 n2 t2 y3 n3 t3 y4 n4 t4 ty D lo none,[]):=by kernel_rfl
theorem hd1 (D:List Int) (n:Nat) (lo:Nat) (g:Nat→SV):outX (mem y1 n1 t1 y2 n2 t2 y3 n3 t3 y4 n4 t4 ty D lo none).length (M2 1 n) (exec (Γ (G:=G)) tys 100 (cpre 2 L) ⟨fill g 0 (M2 1 n),mem y1 n1 t1 y2 n2 t2 y3 n3 t3 y4 n4 t4 ty D lo none,[]⟩)=some (.normal,live (M2 1 n),(M2 1 n).length,mem y1 n1 t1 y2 n2 t2 y3 n3 t3 y4 n4 t4 ty D lo none,[]):=by kernel_rfl
theorem x1 (D:List Int) (n:Nat) (lo:Nat) (g:Nat→SV):outX (mem y1 n1 t1 y2 n2 t2 y3 n3 t3 y4 n4 t4 ty D lo none).length (N2 1 n) (exec (Γ (G:=G)) tys 100 (cpre 1 B3) ⟨fill g 0 (M2 1 n),mem y1 n1 t1 y2 n2 t2 y3 n3 t3 y4 n4 t4 ty D lo none,[]⟩)=some (.normal,live (N2 1 n),(N2 1 n).length,mem y1 n1 t1 y2 n2 t2 y3 n3 t3 y4 n4 t4 ty D lo none,[]):=by kernel_rfl
theorem p1 (D:List Int) (n:Nat) (g:Nat→SV):outXL (mem y1 n1 t1 y2 n2 t2 y3 n3 t3 y4 n4 t4 ty (D++b4 ((n2:Nat):Int)) (n+4) none).length (N2 1 (n+4)) (bV (Γ (G:=G)) tys (opsOf R17).toList ((opsOf R17).toList.take 9) ⟨fill g 0 (N2 1 n),mem y1 n1 t1 y2 n2 t2 y3 n3 t3 y4 n4 t4 ty D (n+4) none,[]⟩)=some (live (N2 1 (n+4)),(N2 1 (n+4)).length,mem y1 n1 t1 y2 n2 t2 y3 n3 t3 y4 n4 t4 ty (D++b4 ((n2:Nat):Int)) (n+4) none,[0+4≤4,n=D.length,n+4≤n+4]):=by kernel_rfl
theorem q1 (D:List Int) (n:Nat) (lo:Nat) (g:Nat→SV):outNL [0,1,2,3,4,7] (N2 1 (n+4)) (bV (Γ (G:=G)) tys (opsOf R17).toList ((opsOf R17).toList.take 9) ⟨fill g 0 (N2 1 n),mem y1 n1 t1 y2 n2 t2 y3 n3 t3 y4 n4 t4 ty D lo (some (n+4)),[]⟩)=some ((live (N2 1 (n+4))).map (SV.ren (piF [0,1,2,3,4,7])),(N2 1 (n+4)).length,(mem y1 n1 t1 y2 n2 t2 y3 n3 t3 y4 n4 t4 ty (D++b4 ((n2:Nat):Int)) (n+4) none).map (fun b=>some (b.ren (piF [0,1,2,3,4,7]))),[0+4≤4,n=D.length,n+4≤n+4,Room Tryz.prog 5 (n+4)]):=by kernel_rfl
theorem r1 (D:List Int) (n:Nat) (g:Nat→SV):outXL (mem y1 n1 t1 y2 n2 t2 y3 n3 t3 y4 n4 t4 ty (D++((y2.drop 0).take n2)) (n+n2) none).length (N2 1 (n+n2)) (bV (Γ (G:=G)) tys (opsOf R18).toList ((opsOf R18).toList.take 7) ⟨fill g 0 (N2 1 n),mem y1 n1 t1 y2 n2 t2 y3 n3 t3 y4 n4 t4 ty D (n+n2) none,[]⟩)=some (live (N2 1 (n+n2)),(N2 1 (n+n2)).length,mem y1 n1 t1 y2 n2 t2 y3 n3 t3 y4 n4 t4 ty (D++((y2.drop 0).take n2)) (n+n2) none,[0+n2≤y2.length,n=D.length,n+n2≤n+n2]):=by kernel_rfl
theorem s1' (D:List Int) (n:Nat) (lo:Nat) (g:Nat→SV):outNL [0,1,2,3,4,6] (N2 1 (n+n2)) (bV (Γ (G:=G)) tys (opsOf R18).toList ((opsOf R18).toList.take 7) ⟨fill g 0 (N2 1 n),mem y1 n1 t1 y2 n2 t2 y3 n3 t3 y4 n4 t4 ty D lo (some (n+n2)),[]⟩)=some ((live (N2 1 (n+n2))).map (SV.ren (piF [0,1,2,3,4,6])),(N2 1 (n+n2)).length,(mem y1 n1 t1 y2 n2 t2 y3 n3 t3 y4 n4 t4 ty (D++((y2.drop 0).take n2)) (n+n2) none).map (fun b=>some (b.ren (piF [0,1,2,3,4,6]))),[0+n2≤y2.length,n=D.length,n+n2≤n+n2,Room Tryz.prog 5 (n+n2)]):=by kernel_rfl
theorem e1 (D:List Int) (n:Nat) (lo:Nat) (g:Nat→SV):outX (mem y1 n1 t1 y2 n2 t2 y3 n3 t3 y4 n4 t4 ty D lo none).length (M2 2 n) (exec (Γ (G:=G)) tys 100 R19 ⟨fill g 0 (N2 1 n),mem y1 n1 t1 y2 n2 t2 y3 n3 t3 y4 n4 t4 ty D lo none,[]⟩)=some (.normal,live (M2 2 n),(M2 2 n).length,mem y1 n1 t1 y2 n2 t2 y3 n3 t3 y4 n4 t4 ty D lo none,[]):=by kernel_rfl
theorem hd2 (D:List Int) (n:Nat) (lo:Nat) (g:Nat→SV):outX (mem y1 n1 t1 y2 n2 t2 y3 n3 t3 y4 n4 t4 ty D lo none).length (M2 2 n) (exec (Γ (G:=G)) tys 100 (cpre 2 L) ⟨fill g 0 (M2 2 n),mem y1 n1 t1 y2 n2 t2 y3 n3 t3 y4 n4 t4 ty D lo none,[]⟩)=some (.normal,live (M2 2 n),(M2 2 n).length,mem y1 n1 t1 y2 n2 t2 y3 n3 t3 y4 n4 t4 ty D lo none,[]):=by kernel_rfl
theorem x2 (D:List Int) (n:Nat) (lo:Nat) (g:Nat→SV):outX (mem y1 n1 t1 y2 n2 t2 y3 n3 t3 y4 n4 t4 ty D lo none).length (N2 2 n) (exec (Γ (G:=G)) tys 100 (cpre 1 B3) ⟨fill g 0 (M2 2 n),mem y1 n1 t1 y2 n2 t2 y3 n3 t3 y4 n4 t4 ty D lo none,[]⟩)=some (.normal,live (N2 2 n),(N2 2 n).length,mem y1 n1 t1 y2 n2 t2 y3 n3 t3 y4 n4 t4 ty D lo none,[]):=by kernel_rfl
theorem p2 (D:List Int) (n:Nat) (g:Nat→SV):outXL (mem y1 n1 t1 y2 n2 t2 y3 n3 t3 y4 n4 t4 ty (D++b4 ((n3:Nat):Int)) (n+4) none).length (N2 2 (n+4)) (bV (Γ (G:=G)) tys (opsOf R17).toList ((opsOf R17).toList.take 9) ⟨fill g 0 (N2 2 n),mem y1 n1 t1 y2 n2 t2 y3 n3 t3 y4 n4 t4 ty D (n+4) none,[]⟩)=some (live (N2 2 (n+4)),(N2 2 (n+4)).length,mem y1 n1 t1 y2 n2 t2 y3 n3 t3 y4 n4 t4 ty (D++b4 ((n3:Nat):Int)) (n+4) none,[0+4≤4,n=D.length,n+4≤n+4]):=by kernel_rfl
theorem q2 (D:List Int) (n:Nat) (lo:Nat) (g:Nat→SV):outNL [0,1,2,3,4,7] (N2 2 (n+4)) (bV (Γ (G:=G)) tys (opsOf R17).toList ((opsOf R17).toList.take 9) ⟨fill g 0 (N2 2 n),mem y1 n1 t1 y2 n2 t2 y3 n3 t3 y4 n4 t4 ty D lo (some (n+4)),[]⟩)=some ((live (N2 2 (n+4))).map (SV.ren (piF [0,1,2,3,4,7])),(N2 2 (n+4)).length,(mem y1 n1 t1 y2 n2 t2 y3 n3 t3 y4 n4 t4 ty (D++b4 ((n3:Nat):Int)) (n+4) none).map (fun b=>some (b.ren (piF [0,1,2,3,4,7]))),[0+4≤4,n=D.length,n+4≤n+4,Room Tryz.prog 5 (n+4)]):=by kernel_rfl
theorem r2 (D:List Int) (n:Nat) (g:Nat→SV):outXL (mem y1 n1 t1 y2 n2 t2 y3 n3 t3 y4 n4 t4 ty (D++((y3.drop 0).take n3)) (n+n3) none).length (N2 2 (n+n3)) (bV (Γ (G:=G)) tys (opsOf R18).toList ((opsOf R18).toList.take 7) ⟨fill g 0 (N2 2 n),mem y1 n1 t1 y2 n2 t2 y3 n3 t3 y4 n4 t4 ty D (n+n3) none,[]⟩)=some (live (N2 2 (n+n3)),(N2 2 (n+n3)).length,mem y1 n1 t1 y2 n2 t2 y3 n3 t3 y4 n4 t4 ty (D++((y3.drop 0).take n3)) (n+n3) none,[0+n3≤y3.length,n=D.length,n+n3≤n+n3]):=by kernel_rfl
theorem s2' (D:List Int) (n:Nat) (lo:Nat) (g:Nat→SV):outNL [0,1,2,3,4,6] (N2 2 (n+n3)) (bV (Γ (G:=G)) tys (opsOf R18).toList ((opsOf R18).toList.take 7) ⟨fill g 0 (N2 2 n),mem y1 n1 t1 y2 n2 t2 y3 n3 t3 y4 n4 t4 ty D lo (some (n+n3)),[]⟩)=some ((live (N2 2 (n+n3))).map (SV.ren (piF [0,1,2,3,4,6])),(N2 2 (n+n3)).length,(mem y1 n1 t1 y2 n2 t2 y3 n3 t3 y4 n4 t4 ty (D++((y3.drop 0).take n3)) (n+n3) none).map (fun b=>some (b.ren (piF [0,1,2,3,4,6]))),[0+n3≤y3.length,n=D.length,n+n3≤n+n3,Room Tryz.prog 5 (n+n3)]):=by kernel_rfl
theorem e2 (D:List Int) (n:Nat) (lo:Nat) (g:Nat→SV):outX (mem y1 n1 t1 y2 n2 t2 y3 n3 t3 y4 n4 t4 ty D lo none).length (M2 3 n) (exec (Γ (G:=G)) tys 100 R19 ⟨fill g 0 (N2 2 n),mem y1 n1 t1 y2 n2 t2 y3 n3 t3 y4 n4 t4 ty D lo none,[]⟩)=some (.normal,live (M2 3 n),(M2 3 n).length,mem y1 n1 t1 y2 n2 t2 y3 n3 t3 y4 n4 t4 ty D lo none,[]):=by kernel_rfl
theorem hd3 (D:List Int) (n:Nat) (lo:Nat) (g:Nat→SV):outX (mem y1 n1 t1 y2 n2 t2 y3 n3 t3 y4 n4 t4 ty D lo none).length (M2 3 n) (exec (Γ (G:=G)) tys 100 (cpre 2 L) ⟨fill g 0 (M2 3 n),mem y1 n1 t1 y2 n2 t2 y3 n3 t3 y4 n4 t4 ty D lo none,[]⟩)=some (.normal,live (M2 3 n),(M2 3 n).length,mem y1 n1 t1 y2 n2 t2 y3 n3 t3 y4 n4 t4 ty D lo none,[]):=by kernel_rfl
theorem x3 (D:List Int) (n:Nat) (lo:Nat) (g:Nat→SV):outX (mem y1 n1 t1 y2 n2 t2 y3 n3 t3 y4 n4 t4 ty D lo none).length (N2 3 n) (exec (Γ (G:=G)) tys 100 (cpre 1 B3) ⟨fill g 0 (M2 3 n),mem y1 n1 t1 y2 n2 t2 y3 n3 t3 y4 n4 t4 ty D lo none,[]⟩)=some (.normal,live (N2 3 n),(N2 3 n).length,mem y1 n1 t1 y2 n2 t2 y3 n3 t3 y4 n4 t4 ty D lo none,[]):=by kernel_rfl
theorem p3 (D:List Int) (n:Nat) (g:Nat→SV):outXL (mem y1 n1 t1 y2 n2 t2 y3 n3 t3 y4 n4 t4 ty (D++b4 ((n4:Nat):Int)) (n+4) none).length (N2 3 (n+4)) (bV (Γ (G:=G)) tys (opsOf R17).toList ((opsOf R17).toList.take 9) ⟨fill g 0 (N2 3 n),mem y1 n1 t1 y2 n2 t2 y3 n3 t3 y4 n4 t4 ty D (n+4) none,[]⟩)=some (live (N2 3 (n+4)),(N2 3 (n+4)).length,mem y1 n1 t1 y2 n2 t2 y3 n3 t3 y4 n4 t4 ty (D++b4 ((n4:Nat):Int)) (n+4) none,[0+4≤4,n=D.length,n+4≤n+4]):=by kernel_rfl
theorem q3 (D:List Int) (n:Nat) (lo:Nat) (g:Nat→SV):outNL [0,1,2,3,4,7] (N2 3 (n+4)) (bV (Γ (G:=G)) tys (opsOf R17).toList ((opsOf R17).toList.take 9) ⟨fill g 0 (N2 3 n),mem y1 n1 t1 y2 n2 t2 y3 n3 t3 y4 n4 t4 ty D lo (some (n+4)),[]⟩)=some ((live (N2 3 (n+4))).map (SV.ren (piF [0,1,2,3,4,7])),(N2 3 (n+4)).length,(mem y1 n1 t1 y2 n2 t2 y3 n3 t3 y4 n4 t4 ty (D++b4 ((n4:Nat):Int)) (n+4) none).map (fun b=>some (b.ren (piF [0,1,2,3,4,7]))),[0+4≤4,n=D.length,n+4≤n+4,Room Tryz.prog 5 (n+4)]):=by kernel_rfl
theorem r3 (D:List Int) (n:Nat) (g:Nat→SV):outXL (mem y1 n1 t1 y2 n2 t2 y3 n3 t3 y4 n4 t4 ty (D++((y4.drop 0).take n4)) (n+n4) none).length (N2 3 (n+n4)) (bV (Γ (G:=G)) tys (opsOf R18).toList ((opsOf R18).toList.take 7) ⟨fill g 0 (N2 3 n),mem y1 n1 t1 y2 n2 t2 y3 n3 t3 y4 n4 t4 ty D (n+n4) none,[]⟩)=some (live (N2 3 (n+n4)),(N2 3 (n+n4)).length,mem y1 n1 t1 y2 n2 t2 y3 n3 t3 y4 n4 t4 ty (D++((y4.drop 0).take n4)) (n+n4) none,[0+n4≤y4.length,n=D.length,n+n4≤n+n4]):=by kernel_rfl
theorem s3' (D:List Int) (n:Nat) (lo:Nat) (g:Nat→SV):outNL [0,1,2,3,4,6] (N2 3 (n+n4)) (bV (Γ (G:=G)) tys (opsOf R18).toList ((opsOf R18).toList.take 7) ⟨fill g 0 (N2 3 n),mem y1 n1 t1 y2 n2 t2 y3 n3 t3 y4 n4 t4 ty D lo (some (n+n4)),[]⟩)=some ((live (N2 3 (n+n4))).map (SV.ren (piF [0,1,2,3,4,6])),(N2 3 (n+n4)).length,(mem y1 n1 t1 y2 n2 t2 y3 n3 t3 y4 n4 t4 ty (D++((y4.drop 0).take n4)) (n+n4) none).map (fun b=>some (b.ren (piF [0,1,2,3,4,6]))),[0+n4≤y4.length,n=D.length,n+n4≤n+n4,Room Tryz.prog 5 (n+n4)]):=by kernel_rfl
theorem e3 (D:List Int) (n:Nat) (lo:Nat) (g:Nat→SV):outX (mem y1 n1 t1 y2 n2 t2 y3 n3 t3 y4 n4 t4 ty D lo none).length (M2 4 n) (exec (Γ (G:=G)) tys 100 R19 ⟨fill g 0 (N2 3 n),mem y1 n1 t1 y2 n2 t2 y3 n3 t3 y4 n4 t4 ty D lo none,[]⟩)=some (.normal,live (M2 4 n),(M2 4 n).length,mem y1 n1 t1 y2 n2 t2 y3 n3 t3 y4 n4 t4 ty D lo none,[]):=by kernel_rfl
theorem u0 {Post:Ex→List SV→List Blk→Prop} (hp:∀g,Post .normal (fill g 0 (N2 0 (4+4))) (mem y1 n1 t1 y2 n2 t2 y3 n3 t3 y4 n4 t4 ty (b4 4++b4 ((n1:Nat):Int)) (4+4) none)) (g:Nat→SV):
  aR Tryz.prog G 5 (opsOf R17) (opsOf R17).toList (fill g 0 (N1 0)) (mem0 y1 n1 t1 y2 n2 t2 y3 n3 t3 y4 n4 t4 ty ) Post:=by
 refine aR.bA ah 9 _ (p0 y1 n1 t1 y2 n2 t2 y3 n3 t3 y4 n4 t4 ty g) ⟨by omega,by omega,by omega,room8 _ (by omega),trivial⟩ (idsN2 y1 n1 t1 y2 n2 t2 y3 n3 t3 y4 n4 t4 ty _ _ _ _ _) rfl fun g=> ?_
 rw[nil17]
 exact aR.nil (hp g)
theorem v0 (D:List Int) (n lo:Nat) (hD:n=D.length) (hn:n≤1048576) (hy:y1.length=n1) (hm:n1≤1048576) {Post:Ex→List SV→List Blk→Prop} (hp:∀g,Post .normal (fill g 0 (N2 0 (n+n1))) (mem y1 n1 t1 y2 n2 t2 y3 n3 t3 y4 n4 t4 ty (D++((y1.drop 0).take n1)) (n+n1) none)) (g:Nat→SV):
  aR Tryz.prog G 5 (opsOf R18) (opsOf R18).toList (fill g 0 (N2 0 n)) (mem y1 n1 t1 y2 n2 t2 y3 n3 t3 y4 n4 t4 ty D lo none) Post:=by
 refine aR.room 5 (n+n1) (own:=true) (ty:=5) (kd:= .u8) (xs:=D) (lo:=lo) rfl ?_ ?_
 ·refine aR.ak ah 7 (r0 y1 n1 t1 y2 n2 t2 y3 n3 t3 y4 n4 t4 ty D n g) ⟨by omega,hD,by omega,trivial⟩ (idsN2 y1 n1 t1 y2 n2 t2 y3 n3 t3 y4 n4 t4 ty _ _ _ _ _) rfl fun g=> ?_
  rw[nil18]
  exact aR.nil (hp g)
 ·refine aR.bA ah 7 _ (s0' y1 n1 t1 y2 n2 t2 y3 n3 t3 y4 n4 t4 ty D n lo g) ⟨by omega,hD,by omega,room8 _ (by omega),trivial⟩ (idsN2 y1 n1 t1 y2 n2 t2 y3 n3 t3 y4 n4 t4 ty _ _ _ _ _) rfl fun g=> ?_
  rw[nil18]
  exact aR.nil (hp g)
theorem u1 (D:List Int) (n lo:Nat) (hD:n=D.length) (hn:n≤1048576) {Post:Ex→List SV→List Blk→Prop} (hp:∀g,Post .normal (fill g 0 (N2 1 (n+4))) (mem y1 n1 t1 y2 n2 t2 y3 n3 t3 y4 n4 t4 ty (D++b4 ((n2:Nat):Int)) (n+4) none)) (g:Nat→SV):
  aR Tryz.prog G 5 (opsOf R17) (opsOf R17).toList (fill g 0 (N2 1 n)) (mem y1 n1 t1 y2 n2 t2 y3 n3 t3 y4 n4 t4 ty D lo none) Post:=by
 refine aR.room 5 (n+4) (own:=true) (ty:=5) (kd:= .u8) (xs:=D) (lo:=lo) rfl ?_ ?_
 ·refine aR.ak ah 9 (p1 y1 n1 t1 y2 n2 t2 y3 n3 t3 y4 n4 t4 ty D n g) ⟨by omega,hD,by omega,trivial⟩ (idsN2 y1 n1 t1 y2 n2 t2 y3 n3 t3 y4 n4 t4 ty _ _ _ _ _) rfl fun g=> ?_
  rw[nil17]
  exact aR.nil (hp g)
 ·refine aR.bA ah 9 _ (q1 y1 n1 t1 y2 n2 t2 y3 n3 t3 y4 n4 t4 ty D n lo g) ⟨by omega,hD,by omega,room8 _ (by omega),trivial⟩ (idsN2 y1 n1 t1 y2 n2 t2 y3 n3 t3 y4 n4 t4 ty _ _ _ _ _) rfl fun g=> ?_
  rw[nil17]
  exact aR.nil (hp g)
theorem v1 (D:List Int) (n lo:Nat) (hD:n=D.length) (hn:n≤1048576) (hy:y2.length=n2) (hm:n2≤1048576) {Post:Ex→List SV→List Blk→Prop} (hp:∀g,Post .normal (fill g 0 (N2 1 (n+n2))) (mem y1 n1 t1 y2 n2 t2 y3 n3 t3 y4 n4 t4 ty (D++((y2.drop 0).take n2)) (n+n2) none)) (g:Nat→SV):
  aR Tryz.prog G 5 (opsOf R18) (opsOf R18).toList (fill g 0 (N2 1 n)) (mem y1 n1 t1 y2 n2 t2 y3 n3 t3 y4 n4 t4 ty D lo none) Post:=by
 refine aR.room 5 (n+n2) (own:=true) (ty:=5) (kd:= .u8) (xs:=D) (lo:=lo) rfl ?_ ?_
 ·refine aR.ak ah 7 (r1 y1 n1 t1 y2 n2 t2 y3 n3 t3 y4 n4 t4 ty D n g) ⟨by omega,hD,by omega,trivial⟩ (idsN2 y1 n1 t1 y2 n2 t2 y3 n3 t3 y4 n4 t4 ty _ _ _ _ _) rfl fun g=> ?_
  rw[nil18]
  exact aR.nil (hp g)
 ·refine aR.bA ah 7 _ (s1' y1 n1 t1 y2 n2 t2 y3 n3 t3 y4 n4 t4 ty D n lo g) ⟨by omega,hD,by omega,room8 _ (by omega),trivial⟩ (idsN2 y1 n1 t1 y2 n2 t2 y3 n3 t3 y4 n4 t4 ty _ _ _ _ _) rfl fun g=> ?_
  rw[nil18]
  exact aR.nil (hp g)
theorem u2 (D:List Int) (n lo:Nat) (hD:n=D.length) (hn:n≤1048576) {Post:Ex→List SV→List Blk→Prop} (hp:∀g,Post .normal (fill g 0 (N2 2 (n+4))) (mem y1 n1 t1 y2 n2 t2 y3 n3 t3 y4 n4 t4 ty (D++b4 ((n3:Nat):Int)) (n+4) none)) (g:Nat→SV):
  aR Tryz.prog G 5 (opsOf R17) (opsOf R17).toList (fill g 0 (N2 2 n)) (mem y1 n1 t1 y2 n2 t2 y3 n3 t3 y4 n4 t4 ty D lo none) Post:=by
 refine aR.room 5 (n+4) (own:=true) (ty:=5) (kd:= .u8) (xs:=D) (lo:=lo) rfl ?_ ?_
 ·refine aR.ak ah 9 (p2 y1 n1 t1 y2 n2 t2 y3 n3 t3 y4 n4 t4 ty D n g) ⟨by omega,hD,by omega,trivial⟩ (idsN2 y1 n1 t1 y2 n2 t2 y3 n3 t3 y4 n4 t4 ty _ _ _ _ _) rfl fun g=> ?_
  rw[nil17]
  exact aR.nil (hp g)
 ·refine aR.bA ah 9 _ (q2 y1 n1 t1 y2 n2 t2 y3 n3 t3 y4 n4 t4 ty D n lo g) ⟨by omega,hD,by omega,room8 _ (by omega),trivial⟩ (idsN2 y1 n1 t1 y2 n2 t2 y3 n3 t3 y4 n4 t4 ty _ _ _ _ _) rfl fun g=> ?_
  rw[nil17]
  exact aR.nil (hp g)
theorem v2 (D:List Int) (n lo:Nat) (hD:n=D.length) (hn:n≤1048576) (hy:y3.length=n3) (hm:n3≤1048576) {Post:Ex→List SV→List Blk→Prop} (hp:∀g,Post .normal (fill g 0 (N2 2 (n+n3))) (mem y1 n1 t1 y2 n2 t2 y3 n3 t3 y4 n4 t4 ty (D++((y3.drop 0).take n3)) (n+n3) none)) (g:Nat→SV):
  aR Tryz.prog G 5 (opsOf R18) (opsOf R18).toList (fill g 0 (N2 2 n)) (mem y1 n1 t1 y2 n2 t2 y3 n3 t3 y4 n4 t4 ty D lo none) Post:=by
 refine aR.room 5 (n+n3) (own:=true) (ty:=5) (kd:= .u8) (xs:=D) (lo:=lo) rfl ?_ ?_
 ·refine aR.ak ah 7 (r2 y1 n1 t1 y2 n2 t2 y3 n3 t3 y4 n4 t4 ty D n g) ⟨by omega,hD,by omega,trivial⟩ (idsN2 y1 n1 t1 y2 n2 t2 y3 n3 t3 y4 n4 t4 ty _ _ _ _ _) rfl fun g=> ?_
  rw[nil18]
  exact aR.nil (hp g)
 ·refine aR.bA ah 7 _ (s2' y1 n1 t1 y2 n2 t2 y3 n3 t3 y4 n4 t4 ty D n lo g) ⟨by omega,hD,by omega,room8 _ (by omega),trivial⟩ (idsN2 y1 n1 t1 y2 n2 t2 y3 n3 t3 y4 n4 t4 ty _ _ _ _ _) rfl fun g=> ?_
  rw[nil18]
  exact aR.nil (hp g)
theorem u3 (D:List Int) (n lo:Nat) (hD:n=D.length) (hn:n≤1048576) {Post:Ex→List SV→List Blk→Prop} (hp:∀g,Post .normal (fill g 0 (N2 3 (n+4))) (mem y1 n1 t1 y2 n2 t2 y3 n3 t3 y4 n4 t4 ty (D++b4 ((n4:Nat):Int)) (n+4) none)) (g:Nat→SV):
  aR Tryz.prog G 5 (opsOf R17) (opsOf R17).toList (fill g 0 (N2 3 n)) (mem y1 n1 t1 y2 n2 t2 y3 n3 t3 y4 n4 t4 ty D lo none) Post:=by
 refine aR.room 5 (n+4) (own:=true) (ty:=5) (kd:= .u8) (xs:=D) (lo:=lo) rfl ?_ ?_
 ·refine aR.ak ah 9 (p3 y1 n1 t1 y2 n2 t2 y3 n3 t3 y4 n4 t4 ty D n g) ⟨by omega,hD,by omega,trivial⟩ (idsN2 y1 n1 t1 y2 n2 t2 y3 n3 t3 y4 n4 t4 ty _ _ _ _ _) rfl fun g=> ?_
  rw[nil17]
  exact aR.nil (hp g)
 ·refine aR.bA ah 9 _ (q3 y1 n1 t1 y2 n2 t2 y3 n3 t3 y4 n4 t4 ty D n lo g) ⟨by omega,hD,by omega,room8 _ (by omega),trivial⟩ (idsN2 y1 n1 t1 y2 n2 t2 y3 n3 t3 y4 n4 t4 ty _ _ _ _ _) rfl fun g=> ?_
  rw[nil17]
  exact aR.nil (hp g)
theorem v3 (D:List Int) (n lo:Nat) (hD:n=D.length) (hn:n≤1048576) (hy:y4.length=n4) (hm:n4≤1048576) {Post:Ex→List SV→List Blk→Prop} (hp:∀g,Post .normal (fill g 0 (N2 3 (n+n4))) (mem y1 n1 t1 y2 n2 t2 y3 n3 t3 y4 n4 t4 ty (D++((y4.drop 0).take n4)) (n+n4) none)) (g:Nat→SV):
  aR Tryz.prog G 5 (opsOf R18) (opsOf R18).toList (fill g 0 (N2 3 n)) (mem y1 n1 t1 y2 n2 t2 y3 n3 t3 y4 n4 t4 ty D lo none) Post:=by
 refine aR.room 5 (n+n4) (own:=true) (ty:=5) (kd:= .u8) (xs:=D) (lo:=lo) rfl ?_ ?_
 ·refine aR.ak ah 7 (r3 y1 n1 t1 y2 n2 t2 y3 n3 t3 y4 n4 t4 ty D n g) ⟨by omega,hD,by omega,trivial⟩ (idsN2 y1 n1 t1 y2 n2 t2 y3 n3 t3 y4 n4 t4 ty _ _ _ _ _) rfl fun g=> ?_
  rw[nil18]
  exact aR.nil (hp g)
 ·refine aR.bA ah 7 _ (s3' y1 n1 t1 y2 n2 t2 y3 n3 t3 y4 n4 t4 ty D n lo g) ⟨by omega,hD,by omega,room8 _ (by omega),trivial⟩ (idsN2 y1 n1 t1 y2 n2 t2 y3 n3 t3 y4 n4 t4 ty _ _ _ _ _) rfl fun g=> ?_
  rw[nil18]
  exact aR.nil (hp g)
theorem hz (D:List Int) (n lo:Nat) (g:Nat→SV):outX (mem y1 n1 t1 y2 n2 t2 y3 n3 t3 y4 n4 t4 ty D lo none).length (MZ n) (exec (Γ (G:=G)) tys 100 L ⟨fill g 0 (M2 4 n),mem y1 n1 t1 y2 n2 t2 y3 n3 t3 y4 n4 t4 ty D lo none,[]⟩)=some (.exit 2,live (MZ n),(MZ n).length,mem y1 n1 t1 y2 n2 t2 y3 n3 t3 y4 n4 t4 ty D lo none,[]):=by kernel_rfl
end
noncomputable def fin (G:Glob) (y1:List Int) (n1:Nat) (t1:TypeId) (y2:List Int) (n2:Nat) (t2:TypeId) (y3:List Int) (n3:Nat) (t3:TypeId) (y4:List Int) (n4:Nat) (t4:TypeId) (ty:TypeId) (D:List Int) (n lo:Nat) (g:Nat→SV):St:=outS (Γ (G:=G)) tys 100 renc.D ⟨fill g 0 (MZ n),mem y1 n1 t1 y2 n2 t2 y3 n3 t3 y4 n4 t4 ty D lo none,[]⟩
section
variable {G:Glob} (y1:List Int) (n1:Nat) (t1:TypeId) (y2:List Int) (n2:Nat) (t2:TypeId) (y3:List Int) (n3:Nat) (t3:TypeId) (y4:List Int) (n4:Nat) (t4:TypeId) (ty:TypeId) (D:List Int) (n lo:Nat) (g:Nat→SV)
theorem d:exec (Γ (G:=G)) tys 100 renc.D ⟨fill g 0 (MZ n),mem y1 n1 t1 y2 n2 t2 y3 n3 t3 y4 n4 t4 ty D lo none,[]⟩=some (.ret,⟨(fin G y1 n1 t1 y2 n2 t2 y3 n3 t3 y4 n4 t4 ty D n lo g).tm,(fin G y1 n1 t1 y2 n2 t2 y3 n3 t3 y4 n4 t4 ty D n lo g).mem,[]⟩,[]):=by kernel_rfl
theorem res:eRes tys (fin G y1 n1 t1 y2 n2 t2 y3 n3 t3 y4 n4 t4 ty D n lo g).tm (fun k=>(fin G y1 n1 t1 y2 n2 t2 y3 n3 t3 y4 n4 t4 ty D n lo g).mem[k]?) fn.results.toList=some [.a (.slg 5 n),.a (.v (.int .i64 0))]:=by kernel_rfl
theorem row:(fin G y1 n1 t1 y2 n2 t2 y3 n3 t3 y4 n4 t4 ty D n lo g).mem[5]? =some ⟨true,5,.gro .u8 D lo none⟩:=by kernel_rfl
end
def Mx (y1:List Int) (n1:Nat) (t1:TypeId) (y2:List Int) (n2:Nat) (t2:TypeId) (y3:List Int) (n3:Nat) (t3:TypeId) (y4:List Int) (n4:Nat) (t4:TypeId) (ty:TypeId):Nat→List (Option SV)
 | 0=>M1 0
 | 1=>M2 1 (4+4+n1)
 | 2=>M2 2 (4+4+n1+4+n2)
 | 3=>M2 3 (4+4+n1+4+n2+4+n3)
 | _=>M2 4 (4+4+n1+4+n2+4+n3+4+n4)
def Bx (y1:List Int) (n1:Nat) (t1:TypeId) (y2:List Int) (n2:Nat) (t2:TypeId) (y3:List Int) (n3:Nat) (t3:TypeId) (y4:List Int) (n4:Nat) (t4:TypeId) (ty:TypeId):Nat→List Blk
 | 0=>mem0 y1 n1 t1 y2 n2 t2 y3 n3 t3 y4 n4 t4 ty
 | 1=>mem y1 n1 t1 y2 n2 t2 y3 n3 t3 y4 n4 t4 ty (b4 4++b4 ((n1:Nat):Int)++((y1.drop 0).take n1)) (4+4+n1) none
 | 2=>mem y1 n1 t1 y2 n2 t2 y3 n3 t3 y4 n4 t4 ty (b4 4++b4 ((n1:Nat):Int)++((y1.drop 0).take n1)++b4 ((n2:Nat):Int)++((y2.drop 0).take n2)) (4+4+n1+4+n2) none
 | 3=>mem y1 n1 t1 y2 n2 t2 y3 n3 t3 y4 n4 t4 ty (b4 4++b4 ((n1:Nat):Int)++((y1.drop 0).take n1)++b4 ((n2:Nat):Int)++((y2.drop 0).take n2)++b4 ((n3:Nat):Int)++((y3.drop 0).take n3)) (4+4+n1+4+n2+4+n3) none
 | _=>mem y1 n1 t1 y2 n2 t2 y3 n3 t3 y4 n4 t4 ty (b4 4++b4 ((n1:Nat):Int)++((y1.drop 0).take n1)++b4 ((n2:Nat):Int)++((y2.drop 0).take n2)++b4 ((n3:Nat):Int)++((y3.drop 0).take n3)++b4 ((n4:Nat):Int)++((y4.drop 0).take n4)) (4+4+n1+4+n2+4+n3+4+n4) none
theorem walk {G:Glob} (y1:List Int) (n1:Nat) (t1:TypeId) (y2:List Int) (n2:Nat) (t2:TypeId) (y3:List Int) (n3:Nat) (t3:TypeId) (y4:List Int) (n4:Nat) (t4:TypeId) (ty:TypeId) (h1:y1.length=n1) (h2:y2.length=n2) (h3:y3.length=n3) (h4:y4.length=n4) (hT:encT [y1,y2,y3,y4]≤1048576):
  aG Tryz.prog G 5 body (aA fn [.o (.a (.slc 0 0 4 4))]) (args y1 n1 t1 y2 n2 t2 y3 n3 t3 y4 n4 t4 ty ) (aD tys fn (aX (rencRes [y1,y2,y3,y4]) (.new 5 (.gro .u8 (encB [y1,y2,y3,y4]) (encT [y1,y2,y3,y4]) none)))):=by
 have hE:encT [y1,y2,y3,y4]=4+4+n1+4+n2+4+n3+4+n4:=by simp only[encT,encL];omega
 have el1:((y1.drop 0).take n1).length=n1:=by rw[dt y1 n1 h1];exact h1
 have el2:((y2.drop 0).take n2).length=n2:=by rw[dt y2 n2 h2];exact h2
 have el3:((y3.drop 0).take n3).length=n3:=by rw[dt y3 n3 h3];exact h3
 have el4:((y4.drop 0).take n4).length=n4:=by rw[dt y4 n4 h4];exact h4
 refine Runs.bI ah mixed 5 (s0 y1 n1 t1 y2 n2 t2 y3 n3 t3 y4 n4 t4 ty ) (holds0 y1 n1 t1 y2 n2 t2 y3 n3 t3 y4 n4 t4 ty (by omega)) (ids0 y1 n1 t1 y2 n2 t2 y3 n3 t3 y4 n4 t4 ty ) rfl fun g=> ?_
 rw[suf_eq]
 refine Runs.seq (Runs.seq (Runs.ak ah mixed (a14 y1 n1 t1 y2 n2 t2 y3 n3 t3 y4 n4 t4 ty g) trivial (ids1 y1 n1 t1 y2 n2 t2 y3 n3 t3 y4 n4 t4 ty 0) rfl fun g=> ?_))
 refine Runs.block ?_
 refine Runs.loopX (Mx y1 n1 t1 y2 n2 t2 y3 n3 t3 y4 n4 t4 ty ) (Bx y1 n1 t1 y2 n2 t2 y3 n3 t3 y4 n4 t4 ty ) (fun i=>i≤4) (fun i=>4-i) ?_ 0 (by omega) g
 intro i g hi
 obtain rfl | rfl | rfl | rfl | rfl:i=0∨i=1∨i=2∨i=3∨i=4:=by omega
 ·refine Runs.bI ah mixed 2 (hd0 y1 n1 t1 y2 n2 t2 y3 n3 t3 y4 n4 t4 ty g) trivial (ids1 y1 n1 t1 y2 n2 t2 y3 n3 t3 y4 n4 t4 ty 0) rfl fun g=> ?_
  rw[L_eq]
  refine Runs.seq (Runs.block (Runs.bI ah mixed 1 (x0 y1 n1 t1 y2 n2 t2 y3 n3 t3 y4 n4 t4 ty g) trivial (idsN1 y1 n1 t1 y2 n2 t2 y3 n3 t3 y4 n4 t4 ty 0) rfl fun g=> ?_))
  rw[B3_eq]
  refine Runs.seq (Runs.region (u0 y1 n1 t1 y2 n2 t2 y3 n3 t3 y4 n4 t4 ty (fun g=> ?_) g))
  refine Runs.region (v0 y1 n1 t1 y2 n2 t2 y3 n3 t3 y4 n4 t4 ty (b4 4++b4 ((n1:Nat):Int)) (4+4) (4+4) (by simp only[List.length_append,b4_len,el1,el2,el3,el4]) (by omega) h1 (by omega) (fun g=> ?_) g)
  exact Runs.ak ah mixed (e0 y1 n1 t1 y2 n2 t2 y3 n3 t3 y4 n4 t4 ty _ _ _ g) trivial (ids2 y1 n1 t1 y2 n2 t2 y3 n3 t3 y4 n4 t4 ty _ _ _ _ _) rfl fun g=>⟨1,g,rfl,rfl,by omega,by omega⟩
 ·refine Runs.bI ah mixed 2 (hd1 y1 n1 t1 y2 n2 t2 y3 n3 t3 y4 n4 t4 ty (b4 4++b4 ((n1:Nat):Int)++((y1.drop 0).take n1)) (4+4+n1) (4+4+n1) g) trivial (ids2 y1 n1 t1 y2 n2 t2 y3 n3 t3 y4 n4 t4 ty _ _ _ _ _) rfl fun g=> ?_
  rw[L_eq]
  refine Runs.seq (Runs.block (Runs.bI ah mixed 1 (x1 y1 n1 t1 y2 n2 t2 y3 n3 t3 y4 n4 t4 ty _ _ _ g) trivial (idsN2 y1 n1 t1 y2 n2 t2 y3 n3 t3 y4 n4 t4 ty _ _ _ _ _) rfl fun g=> ?_))
  rw[B3_eq]
  refine Runs.seq (Runs.region (u1 y1 n1 t1 y2 n2 t2 y3 n3 t3 y4 n4 t4 ty (b4 4++b4 ((n1:Nat):Int)++((y1.drop 0).take n1)) (4+4+n1) (4+4+n1) (by simp only[List.length_append,b4_len,el1,el2,el3,el4]) (by omega) (fun g=> ?_) g))
  refine Runs.region (v1 y1 n1 t1 y2 n2 t2 y3 n3 t3 y4 n4 t4 ty (b4 4++b4 ((n1:Nat):Int)++((y1.drop 0).take n1)++b4 ((n2:Nat):Int)) (4+4+n1+4) (4+4+n1+4) (by simp only[List.length_append,b4_len,el1,el2,el3,el4]) (by omega) h2 (by omega) (fun g=> ?_) g)
  exact Runs.ak ah mixed (e1 y1 n1 t1 y2 n2 t2 y3 n3 t3 y4 n4 t4 ty _ _ _ g) trivial (ids2 y1 n1 t1 y2 n2 t2 y3 n3 t3 y4 n4 t4 ty _ _ _ _ _) rfl fun g=>⟨2,g,rfl,rfl,by omega,by omega⟩
 ·refine Runs.bI ah mixed 2 (hd2 y1 n1 t1 y2 n2 t2 y3 n3 t3 y4 n4 t4 ty (b4 4++b4 ((n1:Nat):Int)++((y1.drop 0).take n1)++b4 ((n2:Nat):Int)++((y2.drop 0).take n2)) (4+4+n1+4+n2) (4+4+n1+4+n2) g) trivial (ids2 y1 n1 t1 y2 n2 t2 y3 n3 t3 y4 n4 t4 ty _ _ _ _ _) rfl fun g=> ?_
  rw[L_eq]
  refine Runs.seq (Runs.block (Runs.bI ah mixed 1 (x2 y1 n1 t1 y2 n2 t2 y3 n3 t3 y4 n4 t4 ty _ _ _ g) trivial (idsN2 y1 n1 t1 y2 n2 t2 y3 n3 t3 y4 n4 t4 ty _ _ _ _ _) rfl fun g=> ?_))
  rw[B3_eq]
  refine Runs.seq (Runs.region (u2 y1 n1 t1 y2 n2 t2 y3 n3 t3 y4 n4 t4 ty (b4 4++b4 ((n1:Nat):Int)++((y1.drop 0).take n1)++b4 ((n2:Nat):Int)++((y2.drop 0).take n2)) (4+4+n1+4+n2) (4+4+n1+4+n2) (by simp only[List.length_append,b4_len,el1,el2,el3,el4]) (by omega) (fun g=> ?_) g))
  refine Runs.region (v2 y1 n1 t1 y2 n2 t2 y3 n3 t3 y4 n4 t4 ty (b4 4++b4 ((n1:Nat):Int)++((y1.drop 0).take n1)++b4 ((n2:Nat):Int)++((y2.drop 0).take n2)++b4 ((n3:Nat):Int)) (4+4+n1+4+n2+4) (4+4+n1+4+n2+4) (by simp only[List.length_append,b4_len,el1,el2,el3,el4]) (by omega) h3 (by omega) (fun g=> ?_) g)
  exact Runs.ak ah mixed (e2 y1 n1 t1 y2 n2 t2 y3 n3 t3 y4 n4 t4 ty _ _ _ g) trivial (ids2 y1 n1 t1 y2 n2 t2 y3 n3 t3 y4 n4 t4 ty _ _ _ _ _) rfl fun g=>⟨3,g,rfl,rfl,by omega,by omega⟩
 ·refine Runs.bI ah mixed 2 (hd3 y1 n1 t1 y2 n2 t2 y3 n3 t3 y4 n4 t4 ty (b4 4++b4 ((n1:Nat):Int)++((y1.drop 0).take n1)++b4 ((n2:Nat):Int)++((y2.drop 0).take n2)++b4 ((n3:Nat):Int)++((y3.drop 0).take n3)) (4+4+n1+4+n2+4+n3) (4+4+n1+4+n2+4+n3) g) trivial (ids2 y1 n1 t1 y2 n2 t2 y3 n3 t3 y4 n4 t4 ty _ _ _ _ _) rfl fun g=> ?_
  rw[L_eq]
  refine Runs.seq (Runs.block (Runs.bI ah mixed 1 (x3 y1 n1 t1 y2 n2 t2 y3 n3 t3 y4 n4 t4 ty _ _ _ g) trivial (idsN2 y1 n1 t1 y2 n2 t2 y3 n3 t3 y4 n4 t4 ty _ _ _ _ _) rfl fun g=> ?_))
  rw[B3_eq]
  refine Runs.seq (Runs.region (u3 y1 n1 t1 y2 n2 t2 y3 n3 t3 y4 n4 t4 ty (b4 4++b4 ((n1:Nat):Int)++((y1.drop 0).take n1)++b4 ((n2:Nat):Int)++((y2.drop 0).take n2)++b4 ((n3:Nat):Int)++((y3.drop 0).take n3)) (4+4+n1+4+n2+4+n3) (4+4+n1+4+n2+4+n3) (by simp only[List.length_append,b4_len,el1,el2,el3,el4]) (by omega) (fun g=> ?_) g))
  refine Runs.region (v3 y1 n1 t1 y2 n2 t2 y3 n3 t3 y4 n4 t4 ty (b4 4++b4 ((n1:Nat):Int)++((y1.drop 0).take n1)++b4 ((n2:Nat):Int)++((y2.drop 0).take n2)++b4 ((n3:Nat):Int)++((y3.drop 0).take n3)++b4 ((n4:Nat):Int)) (4+4+n1+4+n2+4+n3+4) (4+4+n1+4+n2+4+n3+4) (by simp only[List.length_append,b4_len,el1,el2,el3,el4]) (by omega) h4 (by omega) (fun g=> ?_) g)
  exact Runs.ak ah mixed (e3 y1 n1 t1 y2 n2 t2 y3 n3 t3 y4 n4 t4 ty _ _ _ g) trivial (ids2 y1 n1 t1 y2 n2 t2 y3 n3 t3 y4 n4 t4 ty _ _ _ _ _) rfl fun g=>⟨4,g,rfl,rfl,by omega,by omega⟩
 ·refine Runs.ak ah mixed (hz y1 n1 t1 y2 n2 t2 y3 n3 t3 y4 n4 t4 ty (b4 4++b4 ((n1:Nat):Int)++((y1.drop 0).take n1)++b4 ((n2:Nat):Int)++((y2.drop 0).take n2)++b4 ((n3:Nat):Int)++((y3.drop 0).take n3)++b4 ((n4:Nat):Int)++((y4.drop 0).take n4)) (4+4+n1+4+n2+4+n3+4+n4) (4+4+n1+4+n2+4+n3+4+n4) g) trivial (idsZ y1 n1 t1 y2 n2 t2 y3 n3 t3 y4 n4 t4 ty _ _ _ _) rfl fun g=> ?_
  refine Runs.aH ah mixed (d y1 n1 t1 y2 n2 t2 y3 n3 t3 y4 n4 t4 ty _ _ _ g) trivial (aD.ret (res y1 n1 t1 y2 n2 t2 y3 n3 t3 y4 n4 t4 ty _ _ _ g) ⟨5,?_,?_⟩)
  ·unfold rencRes
   rw[hE]
   rfl
  ·rw[row,hE]
   congr 3
   simp only[dt y1 n1 h1,dt y2 n2 h2,dt y3 n3 h3,dt y4 n4 h4,encB,encR,List.append_assoc,List.append_nil,h1,h2,h3,h4]
   rfl
def D:Dec Tryz.prog LstA:=Dec.list Tryz.prog .u8 [true,true,true,true] rencRes (fun ls=> .new 5 (.gro .u8 (encB ls) (encT ls) none)) (fun ls=>[encT ls≤1048576]) (fun ls=>rfl)
noncomputable def con {G:Glob}:Con Tryz.prog G:=Con.hand ah 106 fn Tryz.func106 (by kernel_rfl) (c:=body) (by kernel_rfl) D
 (fun x hc hi=>by
  obtain⟨its,m,ty⟩:=x
  obtain⟨hs,hn,hy⟩:=hi
  have hp:=(aL hc).2.1
  simp only at hs hn hy hp
  obtain⟨a1,t1,rfl,q1⟩:=shp_cons hs
  obtain⟨a2,t2,rfl,q2⟩:=shp_cons q1
  obtain⟨a3,t3,rfl,q3⟩:=shp_cons q2
  obtain⟨a4,t4,rfl,q4⟩:=shp_cons q3
  obtain rfl:=shp_nil q4
  have hn:m=4:=hn
  subst hn
  exact walk a1.ys a1.n a1.ty a2.ys a2.n a2.ty a3.ys a3.n a3.ty a4.ys a4.n a4.ty ty (hy a1 (by simp[bq])) (hy a2 (by simp[bq])) (hy a3 (by simp[bq])) (hy a4 (by simp[bq])) hp)
end k4
end renc
end Go.Proofs.YtbfndladaldajaaGreatDoor
namespace Go.Proofs.YtbfndladaldajaaGreatDoor
open Go Go.Eng Go.RowKit
set_option linter.unusedVariables false
set_option linter.unusedSimpArgs false
set_option maxRecDepth 100000
def lab:List Int:=[108,97,98,101,108]
def markB (b:Bool):Int:=match b with | true=>1 | false=>0
def inpL (s:List Int) (v:Int) (b:Bool):List (List Int):=[lab,s,num8 v,[markB b]]
def inpR (s:ByteArray) (w:List Int) (m:Int):List (List Int):=[([108,97,98,101,108].drop 0).take 5,((ay s).drop 0).take s.size,(w.drop 0).take 8,([m].drop 0).take 1]
theorem inpR_eq (s:ByteArray) (w:List Int) (m:Int) (hw:w.length=8):inpR s w m=[lab,ay s,w,[m]]:=by
 unfold inpR
 rw[dt (ay s) s.size (dS s),dt w 8 hw]
 rfl
theorem inpT {s:List Int} {v:Int} {b:Bool} (h:bU s=true):encT (inpL s v b)≤1048576:=by
 have h3:s.length≤32:=by
  unfold bU at h
  simp only[Bool.and_eq_true,decide_eq_true_eq] at h
  exact h.2.2
 simp only[inpL,encT,encL,lab,num8,List.length_cons,List.length_nil]
 omega
def U64 (v:Int):Prop:=0≤v∧v<18446744073709551616
def badRes:SV:= .t [.a (.v (.slice none 0 0)),.a (.v (.int .i64 1))]
namespace inp
noncomputable abbrev fn:=Tryz.f55
noncomputable def body:Code:=bS fn
noncomputable def Γ {G:Glob}:Cons Tryz.prog G:=[acc_con,num_con,enc.k4.con]
noncomputable def etrue (G:Glob) (s:ByteArray) (v:Int):St:=outS (Γ (G:=G)) tys 200 body ⟨aA fn [.o (.a (.v (.string s))),.o (.a (.v (.int .u64 v))),.o (.a (.v (.bool true)))],[],[(10,[.b true]),(14,[.b false])]⟩
theorem extrue {G:Glob} (s:ByteArray) (v:Int):exec (Γ (G:=G)) tys 200 body ⟨aA fn [.o (.a (.v (.string s))),.o (.a (.v (.int .u64 v))),.o (.a (.v (.bool true)))],[],[(10,[.b true]),(14,[.b false])]⟩=some (.ret,⟨(etrue G s v).tm,(etrue G s v).mem,(etrue G s v).orc⟩,[bU (ay s)=true,(v==0)=false,0+5≤5,0+s.size≤(ay s).length,0+8≤((b4 (numH v)++b4 (numL v))).length,0+1≤1,encT (inpR s (b4 (numH v)++b4 (numL v)) 1)≤1048576]):=by kernel_rfl
theorem restrue {G:Glob} (s:ByteArray) (v:Int):eRes tys (etrue G s v).tm (fun k=>(etrue G s v).mem[k]?) fn.results.toList=some [.a (.sld 5 0 0 (encT (inpR s (b4 (numH v)++b4 (numL v)) 1)) (encT (inpR s (b4 (numH v)++b4 (numL v)) 1))),.a (.v (.int .i64 0))]:=by kernel_rfl
theorem rowtrue {G:Glob} (s:ByteArray) (v:Int):(etrue G s v).mem[5]? =some ⟨true,5,.run .u8 (encB (inpR s (b4 (numH v)++b4 (numL v)) 1))⟩:=by kernel_rfl
noncomputable def eAtrue (G:Glob) (s:ByteArray) (v:Int):St:=outS (Γ (G:=G)) tys 200 body ⟨aA fn [.o (.a (.v (.string s))),.o (.a (.v (.int .u64 v))),.o (.a (.v (.bool true)))],[],[(10,[.b false])]⟩
theorem exAtrue {G:Glob} (s:ByteArray) (v:Int):exec (Γ (G:=G)) tys 200 body ⟨aA fn [.o (.a (.v (.string s))),.o (.a (.v (.int .u64 v))),.o (.a (.v (.bool true)))],[],[(10,[.b false])]⟩=some (.ret,⟨(eAtrue G s v).tm,(eAtrue G s v).mem,(eAtrue G s v).orc⟩,[bU (ay s)=false]):=by kernel_rfl
theorem resAtrue {G:Glob} (s:ByteArray) (v:Int):eRes tys (eAtrue G s v).tm (fun k=>(eAtrue G s v).mem[k]?) fn.results.toList=some [.a (.v (.slice none 0 0)),.a (.v (.int .i64 1))]:=by kernel_rfl
noncomputable def eBtrue (G:Glob) (s:ByteArray) (v:Int):St:=outS (Γ (G:=G)) tys 200 body ⟨aA fn [.o (.a (.v (.string s))),.o (.a (.v (.int .u64 v))),.o (.a (.v (.bool true)))],[],[(10,[.b true]),(14,[.b true])]⟩
theorem exBtrue {G:Glob} (s:ByteArray) (v:Int):exec (Γ (G:=G)) tys 200 body ⟨aA fn [.o (.a (.v (.string s))),.o (.a (.v (.int .u64 v))),.o (.a (.v (.bool true)))],[],[(10,[.b true]),(14,[.b true])]⟩=some (.ret,⟨(eBtrue G s v).tm,(eBtrue G s v).mem,(eBtrue G s v).orc⟩,[bU (ay s)=true,(v==0)=true]):=by kernel_rfl
theorem resBtrue {G:Glob} (s:ByteArray) (v:Int):eRes tys (eBtrue G s v).tm (fun k=>(eBtrue G s v).mem[k]?) fn.results.toList=some [.a (.v (.slice none 0 0)),.a (.v (.int .i64 1))]:=by kernel_rfl
noncomputable def efalse (G:Glob) (s:ByteArray) (v:Int):St:=outS (Γ (G:=G)) tys 200 body ⟨aA fn [.o (.a (.v (.string s))),.o (.a (.v (.int .u64 v))),.o (.a (.v (.bool false)))],[],[(10,[.b true]),(14,[.b false])]⟩
theorem exfalse {G:Glob} (s:ByteArray) (v:Int):exec (Γ (G:=G)) tys 200 body ⟨aA fn [.o (.a (.v (.string s))),.o (.a (.v (.int .u64 v))),.o (.a (.v (.bool false)))],[],[(10,[.b true]),(14,[.b false])]⟩=some (.ret,⟨(efalse G s v).tm,(efalse G s v).mem,(efalse G s v).orc⟩,[bU (ay s)=true,(v==0)=false,0+5≤5,0+s.size≤(ay s).length,0+8≤((b4 (numH v)++b4 (numL v))).length,0+1≤1,encT (inpR s (b4 (numH v)++b4 (numL v)) 0)≤1048576]):=by kernel_rfl
theorem resfalse {G:Glob} (s:ByteArray) (v:Int):eRes tys (efalse G s v).tm (fun k=>(efalse G s v).mem[k]?) fn.results.toList=some [.a (.sld 5 0 0 (encT (inpR s (b4 (numH v)++b4 (numL v)) 0)) (encT (inpR s (b4 (numH v)++b4 (numL v)) 0))),.a (.v (.int .i64 0))]:=by kernel_rfl
theorem rowfalse {G:Glob} (s:ByteArray) (v:Int):(efalse G s v).mem[5]? =some ⟨true,5,.run .u8 (encB (inpR s (b4 (numH v)++b4 (numL v)) 0))⟩:=by kernel_rfl
noncomputable def eAfalse (G:Glob) (s:ByteArray) (v:Int):St:=outS (Γ (G:=G)) tys 200 body ⟨aA fn [.o (.a (.v (.string s))),.o (.a (.v (.int .u64 v))),.o (.a (.v (.bool false)))],[],[(10,[.b false])]⟩
theorem exAfalse {G:Glob} (s:ByteArray) (v:Int):exec (Γ (G:=G)) tys 200 body ⟨aA fn [.o (.a (.v (.string s))),.o (.a (.v (.int .u64 v))),.o (.a (.v (.bool false)))],[],[(10,[.b false])]⟩=some (.ret,⟨(eAfalse G s v).tm,(eAfalse G s v).mem,(eAfalse G s v).orc⟩,[bU (ay s)=false]):=by kernel_rfl
theorem resAfalse {G:Glob} (s:ByteArray) (v:Int):eRes tys (eAfalse G s v).tm (fun k=>(eAfalse G s v).mem[k]?) fn.results.toList=some [.a (.v (.slice none 0 0)),.a (.v (.int .i64 1))]:=by kernel_rfl
noncomputable def eBfalse (G:Glob) (s:ByteArray) (v:Int):St:=outS (Γ (G:=G)) tys 200 body ⟨aA fn [.o (.a (.v (.string s))),.o (.a (.v (.int .u64 v))),.o (.a (.v (.bool false)))],[],[(10,[.b true]),(14,[.b true])]⟩
section
variable {G:Glob} (s:ByteArray) (v:Int)
theorem exBfalse:exec (Γ (G:=G)) tys 200 body ⟨aA fn [.o (.a (.v (.string s))),.o (.a (.v (.int .u64 v))),.o (.a (.v (.bool false)))],[],[(10,[.b true]),(14,[.b true])]⟩=some (.ret,⟨(eBfalse G s v).tm,(eBfalse G s v).mem,(eBfalse G s v).orc⟩,[bU (ay s)=true,(v==0)=true]):=by kernel_rfl
theorem resBfalse:eRes tys (eBfalse G s v).tm (fun k=>(eBfalse G s v).mem[k]?) fn.results.toList=some [.a (.v (.slice none 0 0)),.a (.v (.int .i64 1))]:=by kernel_rfl
theorem run (b:Bool) (hs:s.size≤9223372036854775807) (ha:bU (ay s)=true) (h0:v≠0) (hv:U64 v):
  aG Tryz.prog G 0 body (aA fn [.o (.a (.v (.string s))),.o (.a (.v (.int .u64 v))),.o (.a (.v (.bool b)))]) [] (aD tys fn (aX (encRes (inpL (ay s) v b)) (.new 5 (.run .u8 (encB (inpL (ay s) v b)))))):=by
 have hw:(b4 (numH v)++b4 (numL v))=num8 v:=num8_eq hv.1 hv.2
 have hb:(v==0)=false:=by simpa using h0
 have hl:∀m,inpR s (b4 (numH v)++b4 (numL v)) m=[lab,ay s,num8 v,[m]]:=fun m=>by rw[hw];exact inpR_eq s _ m rfl
 have h8:0+8≤((b4 (numH v)++b4 (numL v))).length:=by rw[hw];show 0+8≤8;omega
 cases b with
 | true=>
  have e:inpR s (b4 (numH v)++b4 (numL v)) 1=inpL (ay s) v true:=hl 1
  refine Runs.aH ah mixed (extrue s v) ⟨ha,hb,by decide,by rw[dS];omega,h8,by decide,by rw[e];exact inpT ha,trivial⟩ (aD.ret (restrue s v) ⟨5,?_,?_⟩)
  ·rw[e];rfl
  ·rw[rowtrue,e]
 | false=>
  have e:inpR s (b4 (numH v)++b4 (numL v)) 0=inpL (ay s) v false:=hl 0
  refine Runs.aH ah mixed (exfalse s v) ⟨ha,hb,by decide,by rw[dS];omega,h8,by decide,by rw[e];exact inpT ha,trivial⟩ (aD.ret (resfalse s v) ⟨5,?_,?_⟩)
  ·rw[e];rfl
  ·rw[rowfalse,e]
theorem runBad (b:Bool) (hs:s.size≤9223372036854775807) (ha:bU (ay s)=false∨v=0):
  aG Tryz.prog G 0 body (aA fn [.o (.a (.v (.string s))),.o (.a (.v (.int .u64 v))),.o (.a (.v (.bool b)))]) [] (aD tys fn (aX badRes .none)):=by
 cases hA:bU (ay s) with
 | false=>cases b with
  | true=>exact Runs.aH ah mixed (exAtrue s v) ⟨hA,trivial⟩ (aD.ret (resAtrue s v) rfl)
  | false=>exact Runs.aH ah mixed (exAfalse s v) ⟨hA,trivial⟩ (aD.ret (resAfalse s v) rfl)
 | true=>
  have h0:v=0:=by
   rcases ha with h | h
   ·rw[hA] at h;cases h
   ·exact h
  have hb:(v==0)=true:=by simpa using h0
  cases b with
  | true=>exact Runs.aH ah mixed (exBtrue s v) ⟨hA,hb,trivial⟩ (aD.ret (resBtrue s v) rfl)
  | false=>exact Runs.aH ah mixed (exBfalse s v) ⟨hA,hb,trivial⟩ (aD.ret (resBfalse s v) rfl)
end
def spec:List PArg→Option (SV × LEff × Cst)
 | [.val (.o (.a (.v (.string s)))),.val (.o (.a (.v (.int .u64 v)))),.val (.o (.a (.v (.bool b))))]=>some (encRes (inpL (ay s) v b),.new 5 (.run .u8 (encB (inpL (ay s) v b))),[s.size≤9223372036854775807,bU (ay s)=true,v≠0,U64 v])
 | _=>none
def badSpec:List PArg→Option (SV × LEff × Cst)
 | [.val (.o (.a (.v (.string s)))),.val (.o (.a (.v (.int .u64 v)))),.val (.o (.a (.v (.bool b))))]=>some (badRes,.none,[s.size≤9223372036854775807,bU (ay s)=false∨v=0])
 | _=>none
noncomputable def con {G:Glob}:Con Tryz.prog G:=Con.parts ah 55 fn Tryz.func55 (by kernel_rfl) (c:=body) (by kernel_rfl) [.val,.val,.val] spec
 (fun ps r e p h hp=>by
  unfold spec at h
  split at h<;>cases h
  exact⟨rfl,fun b hb=>by cases hb⟩)
 (fun ps r e p cap h hp hi=>by
  unfold spec at h
  split at h<;>cases h
  exact run _ _ _ hp.1 hp.2.1 hp.2.2.1 hp.2.2.2.1)
noncomputable def bad {G:Glob}:Con Tryz.prog G:=Con.parts ah 55 fn Tryz.func55 (by kernel_rfl) (c:=body) (by kernel_rfl) [.val,.val,.val] badSpec
 (fun ps r e p h hp=>by
  unfold badSpec at h
  split at h<;>cases h
  exact⟨rfl,fun b hb=>by cases hb⟩)
 (fun ps r e p cap h hp hi=>by
  unfold badSpec at h
  split at h<;>cases h
  exact runBad _ _ _ hp.1 hp.2.1)
end inp
namespace rinp
noncomputable abbrev fn:=Tryz.f58
noncomputable def body:Code:=bS fn
noncomputable def Γ {G:Glob}:Cons Tryz.prog G:=[racc_con,rnum_con,renc.k4.con]
noncomputable def etrue (G:Glob) (s:ByteArray) (v:Int):St:=outS (Γ (G:=G)) tys 200 body ⟨aA fn [.o (.a (.v (.string s))),.o (.a (.v (.int .u64 v))),.o (.a (.v (.bool true)))],[],[(10,[.b true]),(14,[.b false])]⟩
theorem extrue {G:Glob} (s:ByteArray) (v:Int):exec (Γ (G:=G)) tys 200 body ⟨aA fn [.o (.a (.v (.string s))),.o (.a (.v (.int .u64 v))),.o (.a (.v (.bool true)))],[],[(10,[.b true]),(14,[.b false])]⟩=some (.ret,⟨(etrue G s v).tm,(etrue G s v).mem,(etrue G s v).orc⟩,[s.size≤9223372036854775807,bU (ay s)=true,(v==0)=false,0+5≤5,0+s.size≤(ay s).length,0+8≤((num8 v)).length,0+1≤1,encT (inpR s (num8 v) 1)≤1048576]):=by kernel_rfl
theorem restrue {G:Glob} (s:ByteArray) (v:Int):eRes tys (etrue G s v).tm (fun k=>(etrue G s v).mem[k]?) fn.results.toList=some [.a (.slg 5 (encT (inpR s (num8 v) 1))),.a (.v (.int .i64 0))]:=by kernel_rfl
theorem rowtrue {G:Glob} (s:ByteArray) (v:Int):(etrue G s v).mem[5]? =some ⟨true,5,.gro .u8 (encB (inpR s (num8 v) 1)) (encT (inpR s (num8 v) 1)) none⟩:=by kernel_rfl
noncomputable def eAtrue (G:Glob) (s:ByteArray) (v:Int):St:=outS (Γ (G:=G)) tys 200 body ⟨aA fn [.o (.a (.v (.string s))),.o (.a (.v (.int .u64 v))),.o (.a (.v (.bool true)))],[],[(10,[.b false])]⟩
theorem exAtrue {G:Glob} (s:ByteArray) (v:Int):exec (Γ (G:=G)) tys 200 body ⟨aA fn [.o (.a (.v (.string s))),.o (.a (.v (.int .u64 v))),.o (.a (.v (.bool true)))],[],[(10,[.b false])]⟩=some (.ret,⟨(eAtrue G s v).tm,(eAtrue G s v).mem,(eAtrue G s v).orc⟩,[s.size≤9223372036854775807,bU (ay s)=false]):=by kernel_rfl
theorem resAtrue {G:Glob} (s:ByteArray) (v:Int):eRes tys (eAtrue G s v).tm (fun k=>(eAtrue G s v).mem[k]?) fn.results.toList=some [.a (.v (.slice none 0 0)),.a (.v (.int .i64 1))]:=by kernel_rfl
noncomputable def eBtrue (G:Glob) (s:ByteArray) (v:Int):St:=outS (Γ (G:=G)) tys 200 body ⟨aA fn [.o (.a (.v (.string s))),.o (.a (.v (.int .u64 v))),.o (.a (.v (.bool true)))],[],[(10,[.b true]),(14,[.b true])]⟩
theorem exBtrue {G:Glob} (s:ByteArray) (v:Int):exec (Γ (G:=G)) tys 200 body ⟨aA fn [.o (.a (.v (.string s))),.o (.a (.v (.int .u64 v))),.o (.a (.v (.bool true)))],[],[(10,[.b true]),(14,[.b true])]⟩=some (.ret,⟨(eBtrue G s v).tm,(eBtrue G s v).mem,(eBtrue G s v).orc⟩,[s.size≤9223372036854775807,bU (ay s)=true,(v==0)=true]):=by kernel_rfl
theorem resBtrue {G:Glob} (s:ByteArray) (v:Int):eRes tys (eBtrue G s v).tm (fun k=>(eBtrue G s v).mem[k]?) fn.results.toList=some [.a (.v (.slice none 0 0)),.a (.v (.int .i64 1))]:=by kernel_rfl
noncomputable def efalse (G:Glob) (s:ByteArray) (v:Int):St:=outS (Γ (G:=G)) tys 200 body ⟨aA fn [.o (.a (.v (.string s))),.o (.a (.v (.int .u64 v))),.o (.a (.v (.bool false)))],[],[(10,[.b true]),(14,[.b false])]⟩
theorem exfalse {G:Glob} (s:ByteArray) (v:Int):exec (Γ (G:=G)) tys 200 body ⟨aA fn [.o (.a (.v (.string s))),.o (.a (.v (.int .u64 v))),.o (.a (.v (.bool false)))],[],[(10,[.b true]),(14,[.b false])]⟩=some (.ret,⟨(efalse G s v).tm,(efalse G s v).mem,(efalse G s v).orc⟩,[s.size≤9223372036854775807,bU (ay s)=true,(v==0)=false,0+5≤5,0+s.size≤(ay s).length,0+8≤((num8 v)).length,0+1≤1,encT (inpR s (num8 v) 0)≤1048576]):=by kernel_rfl
theorem resfalse {G:Glob} (s:ByteArray) (v:Int):eRes tys (efalse G s v).tm (fun k=>(efalse G s v).mem[k]?) fn.results.toList=some [.a (.slg 5 (encT (inpR s (num8 v) 0))),.a (.v (.int .i64 0))]:=by kernel_rfl
theorem rowfalse {G:Glob} (s:ByteArray) (v:Int):(efalse G s v).mem[5]? =some ⟨true,5,.gro .u8 (encB (inpR s (num8 v) 0)) (encT (inpR s (num8 v) 0)) none⟩:=by kernel_rfl
noncomputable def eAfalse (G:Glob) (s:ByteArray) (v:Int):St:=outS (Γ (G:=G)) tys 200 body ⟨aA fn [.o (.a (.v (.string s))),.o (.a (.v (.int .u64 v))),.o (.a (.v (.bool false)))],[],[(10,[.b false])]⟩
theorem exAfalse {G:Glob} (s:ByteArray) (v:Int):exec (Γ (G:=G)) tys 200 body ⟨aA fn [.o (.a (.v (.string s))),.o (.a (.v (.int .u64 v))),.o (.a (.v (.bool false)))],[],[(10,[.b false])]⟩=some (.ret,⟨(eAfalse G s v).tm,(eAfalse G s v).mem,(eAfalse G s v).orc⟩,[s.size≤9223372036854775807,bU (ay s)=false]):=by kernel_rfl
theorem resAfalse {G:Glob} (s:ByteArray) (v:Int):eRes tys (eAfalse G s v).tm (fun k=>(eAfalse G s v).mem[k]?) fn.results.toList=some [.a (.v (.slice none 0 0)),.a (.v (.int .i64 1))]:=by kernel_rfl
noncomputable def eBfalse (G:Glob) (s:ByteArray) (v:Int):St:=outS (Γ (G:=G)) tys 200 body ⟨aA fn [.o (.a (.v (.string s))),.o (.a (.v (.int .u64 v))),.o (.a (.v (.bool false)))],[],[(10,[.b true]),(14,[.b true])]⟩
section
variable {G:Glob} (s:ByteArray) (v:Int)
theorem exBfalse:exec (Γ (G:=G)) tys 200 body ⟨aA fn [.o (.a (.v (.string s))),.o (.a (.v (.int .u64 v))),.o (.a (.v (.bool false)))],[],[(10,[.b true]),(14,[.b true])]⟩=some (.ret,⟨(eBfalse G s v).tm,(eBfalse G s v).mem,(eBfalse G s v).orc⟩,[s.size≤9223372036854775807,bU (ay s)=true,(v==0)=true]):=by kernel_rfl
theorem resBfalse:eRes tys (eBfalse G s v).tm (fun k=>(eBfalse G s v).mem[k]?) fn.results.toList=some [.a (.v (.slice none 0 0)),.a (.v (.int .i64 1))]:=by kernel_rfl
theorem run (b:Bool) (hs:s.size≤9223372036854775807) (ha:bU (ay s)=true) (h0:v≠0) (hv:U64 v):
  aG Tryz.prog G 0 body (aA fn [.o (.a (.v (.string s))),.o (.a (.v (.int .u64 v))),.o (.a (.v (.bool b)))]) [] (aD tys fn (aX (rencRes (inpL (ay s) v b)) (.new 5 (.gro .u8 (encB (inpL (ay s) v b)) (encT (inpL (ay s) v b)) none)))):=by
 have hw:(num8 v)=num8 v:=rfl
 have hb:(v==0)=false:=by simpa using h0
 have hl:∀m,inpR s (num8 v) m=[lab,ay s,num8 v,[m]]:=fun m=>by rw[hw];exact inpR_eq s _ m rfl
 have h8:0+8≤((num8 v)).length:=by rw[hw];show 0+8≤8;omega
 cases b with
 | true=>
  have e:inpR s (num8 v) 1=inpL (ay s) v true:=hl 1
  refine Runs.aH ah mixed (extrue s v) ⟨hs,ha,hb,by decide,by rw[dS];omega,h8,by decide,by rw[e];exact inpT ha,trivial⟩ (aD.ret (restrue s v) ⟨5,?_,?_⟩)
  ·rw[e];rfl
  ·rw[rowtrue,e]
 | false=>
  have e:inpR s (num8 v) 0=inpL (ay s) v false:=hl 0
  refine Runs.aH ah mixed (exfalse s v) ⟨hs,ha,hb,by decide,by rw[dS];omega,h8,by decide,by rw[e];exact inpT ha,trivial⟩ (aD.ret (resfalse s v) ⟨5,?_,?_⟩)
  ·rw[e];rfl
  ·rw[rowfalse,e]
theorem runBad (b:Bool) (hs:s.size≤9223372036854775807) (ha:bU (ay s)=false∨v=0):
  aG Tryz.prog G 0 body (aA fn [.o (.a (.v (.string s))),.o (.a (.v (.int .u64 v))),.o (.a (.v (.bool b)))]) [] (aD tys fn (aX badRes .none)):=by
 cases hA:bU (ay s) with
 | false=>cases b with
  | true=>exact Runs.aH ah mixed (exAtrue s v) ⟨hs,hA,trivial⟩ (aD.ret (resAtrue s v) rfl)
  | false=>exact Runs.aH ah mixed (exAfalse s v) ⟨hs,hA,trivial⟩ (aD.ret (resAfalse s v) rfl)
 | true=>
  have h0:v=0:=by
   rcases ha with h | h
   ·rw[hA] at h;cases h
   ·exact h
  have hb:(v==0)=true:=by simpa using h0
  cases b with
  | true=>exact Runs.aH ah mixed (exBtrue s v) ⟨hs,hA,hb,trivial⟩ (aD.ret (resBtrue s v) rfl)
  | false=>exact Runs.aH ah mixed (exBfalse s v) ⟨hs,hA,hb,trivial⟩ (aD.ret (resBfalse s v) rfl)
end
def spec:List PArg→Option (SV × LEff × Cst)
 | [.val (.o (.a (.v (.string s)))),.val (.o (.a (.v (.int .u64 v)))),.val (.o (.a (.v (.bool b))))]=>some (rencRes (inpL (ay s) v b),.new 5 (.gro .u8 (encB (inpL (ay s) v b)) (encT (inpL (ay s) v b)) none),[s.size≤9223372036854775807,bU (ay s)=true,v≠0,U64 v])
 | _=>none
def badSpec:List PArg→Option (SV × LEff × Cst)
 | [.val (.o (.a (.v (.string s)))),.val (.o (.a (.v (.int .u64 v)))),.val (.o (.a (.v (.bool b))))]=>some (badRes,.none,[s.size≤9223372036854775807,bU (ay s)=false∨v=0])
 | _=>none
noncomputable def con {G:Glob}:Con Tryz.prog G:=Con.parts ah 58 fn Tryz.func58 (by kernel_rfl) (c:=body) (by kernel_rfl) [.val,.val,.val] spec
 (fun ps r e p h hp=>by
  unfold spec at h
  split at h<;>cases h
  exact⟨rfl,fun b hb=>by cases hb⟩)
 (fun ps r e p cap h hp hi=>by
  unfold spec at h
  split at h<;>cases h
  exact run _ _ _ hp.1 hp.2.1 hp.2.2.1 hp.2.2.2.1)
noncomputable def bad {G:Glob}:Con Tryz.prog G:=Con.parts ah 58 fn Tryz.func58 (by kernel_rfl) (c:=body) (by kernel_rfl) [.val,.val,.val] badSpec
 (fun ps r e p h hp=>by
  unfold badSpec at h
  split at h<;>cases h
  exact⟨rfl,fun b hb=>by cases hb⟩)
 (fun ps r e p cap h hp hi=>by
  unfold badSpec at h
  split at h<;>cases h
  exact runBad _ _ _ hp.1 hp.2.1)
end rinp
end Go.Proofs.YtbfndladaldajaaGreatDoor
namespace Go.Proofs.YtbfndladaldajaaGreatDoor
open Go Go.Eng Go.RowKit
set_option linter.unusedVariables false
set_option linter.unusedSimpArgs false
set_option maxRecDepth 100000
namespace awk
noncomputable abbrev fn:=Tryz.f22
noncomputable def body:Code:=bS fn
def sa:ByteArray:=⟨#[97]⟩
def sA:ByteArray:=⟨#[65]⟩
def MA:List (Option SV):=aJ 24 0 [(1,.o (.a (.sld 0 0 0 35 35))),(2,.o (.a (.v (.int .i64 0))))]
def mA:List Blk:=[⟨true,5,.run .u8 (encB (inpL (ay sa) 1 true))⟩]
theorem idsA:aF mA.length MA mA=true:=by kernel_rfl
theorem s1 {G:Glob}:outX mA.length MA (exec ([inp.con]:Cons Tryz.prog G) tys 200 (cpre 2 body) ⟨aA fn [],[],[]⟩)=some (.normal,live MA,MA.length,mA,[sa.size≤9223372036854775807,bU (ay sa)=true,(1:Int)≠0,U64 1]):=by kernel_rfl
noncomputable def e (G:Glob) (g:Nat→SV):St:=outS ([inp.bad]:Cons Tryz.prog G) tys 200 (csuf 2 body) ⟨fill g 0 MA,mA,[]⟩
theorem ex {G:Glob} (g:Nat→SV):exec ([inp.bad]:Cons Tryz.prog G) tys 200 (csuf 2 body) ⟨fill g 0 MA,mA,[]⟩=some (.ret,⟨(e G g).tm,(e G g).mem,[]⟩,[sA.size≤9223372036854775807,bU (ay sA)=false∨(1:Int)=0]):=by kernel_rfl
theorem res {G:Glob} (g:Nat→SV):eRes tys (e G g).tm (fun k=>(e G g).mem[k]?) fn.results.toList=some [.a (bool1 true)]:=by kernel_rfl
theorem run {G:Glob}:aG Tryz.prog G 0 body (aA fn []) [] (aD tys fn (aX (aN.enc true) .none)):=by
 refine Runs.bI ah mixed 2 s1 ⟨by decide,by kernel_rfl,by decide,⟨by decide,by decide⟩,trivial⟩ idsA rfl fun g=> ?_
 exact Runs.aH ah mixed (ex g) ⟨by decide,.inl (by kernel_rfl),trivial⟩ (aD.ret (res g) rfl)
def spec:List PArg→Option (SV × LEff × Cst)
 | []=>some (.o (.a (bool1 true)),.none,[])
 | _=>none
noncomputable def con {G:Glob}:Con Tryz.prog G:=Con.parts ah 22 fn Tryz.func22 (by kernel_rfl) (c:=body) (by kernel_rfl) [] spec
 (fun ps r e p h hp=>by
  unfold spec at h
  split at h<;>cases h
  exact⟨rfl,fun b hb=>by cases hb⟩)
 (fun ps r e p cap h hp hi=>by
  unfold spec at h
  split at h<;>cases h
  exact run)
end awk
end Go.Proofs.YtbfndladaldajaaGreatDoor

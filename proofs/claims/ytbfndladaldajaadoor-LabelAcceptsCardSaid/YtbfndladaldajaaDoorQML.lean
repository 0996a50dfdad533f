/- Package wire: Account: its walk (a range over a text). -/
import Derived.Test.YtbfndladaldajaaDoorQTy
import Derived.LoopTactic
import Derived.Laws.RangeString
import Derived.Laws.Strings
import Derived.Laws.Strings2
import Derived.Laws.Strings3
import Derived.Laws.RangeAny
import Derived.Test.YtbfndladaldajaaDoorQMA
namespace Go.Proofs.YtbfndladaldajaaDoor
open Go Go.Eng Go.RowKit
set_option linter.unusedVariables false
set_option linter.unusedSimpArgs false
set_option maxRecDepth 100000
def okB (n : Int) : Bool := (decide (97 ≤ n) && decide (n ≤ 122)) || (decide (48 ≤ n) && decide (n ≤ 57)) || decide (n = 46) || decide (n = 95) || decide (n = 45)
def accOk (xs : List Int) : Bool := xs.all okB && (decide (1 ≤ xs.length) && decide (xs.length ≤ 32))
theorem loop_eq (bs : ByteArray) : ∀ (n i : Nat) (r : List UInt8), bs.size - i = n → ByteArray.toList.loop bs i r = r.reverse ++ bs.data.toList.drop i
  | 0, i, r, h => by
    unfold ByteArray.toList.loop
    have hs : bs.size = bs.data.toList.length := rfl
    rw [if_neg (by omega), List.drop_eq_nil_of_le (by omega), List.append_nil]
  | n + 1, i, r, h => by
    unfold ByteArray.toList.loop
    have hs : bs.size = bs.data.toList.length := rfl
    have hi : i < bs.data.toList.length := by omega
    have hg : bs.get! i = bs.data.toList[i] := by
      show bs.data[i]! = _
      rw [getElem!_pos bs.data i (by simpa using hi)]
      simp
    rw [if_pos (by omega), loop_eq bs n (i + 1) _ (by omega), List.drop_eq_getElem_cons hi, hg]
    simp
theorem toList_data (bs : ByteArray) : bs.toList = bs.data.toList := by
  unfold ByteArray.toList
  rw [loop_eq bs bs.size 0 [] (by omega)]
  simp
theorem text_empty (s : ByteArray) : s.toList.isEmpty = decide (s.size = 0) := by
  have hs : s.size = s.data.toList.length := rfl
  rw [toList_data, hs]
  cases s.data.toList <;> simp
theorem bytes_at (s : ByteArray) (pos : Nat) (h : pos < s.size) : (bytesI s).getD pos 0 = ((s[pos]'h).toNat : Int) := by
  have h' : pos < s.data.toList.length := h
  unfold bytesI
  rw [List.getD, List.getElem?_map, List.getElem?_eq_getElem h']
  rfl
theorem dec_ok {s : ByteArray} {pos : Nat} (h : pos < s.size) (ho : okB ((Utf8.decode s pos).1 : Int) = true) : (Utf8.decode s pos).2 = 1 ∧ okB ((bytesI s).getD pos 0) = true := by
  by_cases ha : (s[pos]'h).toNat < 128
  · rw [decode_ascii s pos h ha] at ho ⊢
    exact ⟨rfl, by rw [bytes_at s pos h]; exact ho⟩
  · have := (decode_high s pos h (by omega)).1
    unfold okB at ho
    simp only [Bool.or_eq_true, Bool.and_eq_true, decide_eq_true_eq] at ho
    omega
theorem dec_bad {s : ByteArray} {pos : Nat} (h : pos < s.size) (ho : okB ((Utf8.decode s pos).1 : Int) = false) : okB ((bytesI s).getD pos 0) = false := by
  rw [bytes_at s pos h]
  by_cases ha : (s[pos]'h).toNat < 128
  · rw [decode_ascii s pos h ha] at ho
    exact ho
  · cases hb : okB ((s[pos]'h).toNat : Int) with
    | false => rfl
    | true =>
      unfold okB at hb
      simp only [Bool.or_eq_true, Bool.and_eq_true, decide_eq_true_eq] at hb
      omega
theorem acc_bad {s : ByteArray} {pos : Nat} (h : pos < s.size) (ho : okB ((bytesI s).getD pos 0) = false) : accOk (bytesI s) = false := by
  have hl : pos < (bytesI s).length := by rw [bytesI_length]; exact h
  have : (bytesI s).all okB = false := by
    rw [← Bool.not_eq_true, List.all_eq_true]
    intro hall
    have := hall _ (List.getElem_mem hl)
    rw [List.getD, List.getElem?_eq_getElem hl] at ho
    rw [Option.getD_some, this] at ho
    cases ho
  unfold accOk
  rw [this]; rfl
theorem acc_all {s : ByteArray} (h : ∀ k, k < s.size → okB ((bytesI s).getD k 0) = true) : accOk (bytesI s) = (decide (1 ≤ s.size) && decide (s.size ≤ 32)) := by
  have : (bytesI s).all okB = true := by
    rw [List.all_eq_true]
    intro x hx
    obtain ⟨k, hk, rfl⟩ := List.mem_iff_getElem.1 hx
    have := h k (by rw [← bytesI_length]; exact hk)
    rw [List.getD, List.getElem?_eq_getElem hk] at this
    exact this
  unfold accOk
  rw [this, bytesI_length]; rfl
theorem acc_walk (s : ByteArray) (w : World) :
    Calls Tryd.prog 27 #[.string s] w fun e w' => e = .returned (.bool (accOk (bytesI s))) ∧ ∃ pos, w' = w.iter s pos := by
  go_enter Tryd.func27, Tryd.ntmps27
  go_wp2
  go_loopw [] (fun wr => ∃ pos : Nat, wr = w.iter s pos ∧ pos ≤ s.size ∧ ∀ k, k < pos → okB ((bytesI s).getD k 0) = true) (fun wr => s.size - wr.iterPos w.heap.size)
  case atStart => exact ⟨0, rfl, by omega, fun k hk => by omega⟩
  case round =>
    obtain ⟨pos, rfl, hp0, hall⟩ := hrel
    by_cases hp : pos < s.size
    · have hnx : ∀ ty, (Instr.next (.pointer (some ⟨w.heap.size, 0, none⟩)) true ty).run Tryd.prog (w.iter s pos) = _ := fun ty => run_next_any w s pos ty hp
      go_wp2
      all_goals first
        | (have hg : okB ((Utf8.decode s pos).1 : Int) = true := by
            unfold okB
            simp only [Bool.or_eq_true, Bool.and_eq_true, decide_eq_true_eq]
            try simp only [beq_iff_eq, beq_eq_false_iff_ne, ne_eq] at *
            omega
           obtain ⟨h1, h2⟩ := dec_ok hp hg
           rw [h1]
           refine ⟨⟨pos + 1, rfl, by omega, fun k hk => ?_⟩, ?_⟩
           · by_cases e : k = pos
             · rw [e]; exact h2
             · exact hall k (by omega)
           · simp; omega)
        | (have hg : okB ((Utf8.decode s pos).1 : Int) = false := by
            cases hb : okB ((Utf8.decode s pos).1 : Int) with
            | false => rfl
            | true =>
              unfold okB at hb
              simp only [Bool.or_eq_true, Bool.and_eq_true, decide_eq_true_eq] at hb
              try simp only [beq_iff_eq, beq_eq_false_iff_ne, ne_eq] at *
              omega
           have h2 := acc_bad hp (dec_bad hp hg)
           go_ret
           rw [h2]
           exact ⟨rfl, _, rfl⟩)
    · have hnx : ∀ ty, (Instr.next (.pointer (some ⟨w.heap.size, 0, none⟩)) true ty).run Tryd.prog (w.iter s pos) = _ := fun ty => run_next_end w s pos ty hp
      go_wp2
      all_goals
        have ha := acc_all (s := s) fun k hk => hall k (by omega)
        go_ret
        rw [ha]
      · rename_i he
        have : s.toList.isEmpty = true := by rw [he]; rfl
        rw [text_empty, decide_eq_true_eq] at this
        rw [this]
        exact ⟨rfl, _, rfl⟩
      · refine ⟨?_, _, rfl⟩
        rw [text_empty]
        have e1 : (!decide (s.size = 0)) = decide (1 ≤ s.size) := by
          by_cases h0 : s.size = 0
          · rw [h0]; rfl
          · rw [decide_eq_false h0, decide_eq_true (by omega)]; rfl
        have e2 : decide ((s.size : Int) ≤ 32) = decide (s.size ≤ 32) := by
          by_cases h0 : s.size ≤ 32
          · rw [decide_eq_true h0, decide_eq_true (by omega)]
          · rw [decide_eq_false h0, decide_eq_false (by omega)]
        rw [e1, e2]
        rfl
theorem acc_ok {G : Glob} (s : ByteArray) : FnOk Tryd.prog G 27 [.o (.a (.v (.string s)))] (.o (.a (bool1 (accOk (bytesI s))))) := fun w β hg =>
  (acc_walk s w).mono fun e w' ⟨he, pos, hw⟩ => ⟨he, by rw [hw]; exact (Below.refl _ _).alloc (Nat.le_refl _) _⟩
def acc_con {G : Glob} : Con Tryd.prog G := Con.of 27 Tryd.f27 Tryd.func27 (by kernel_rfl) (by kernel_rfl)
  (fun args => match args with | [.o (.a (.v (.string s)))] => some (.o (.a (bool1 (accOk (bytesI s)))), []) | _ => none)
  (fun args r c h => by
    split at h <;> cases h
    exact ⟨rfl, fun _ => acc_ok _⟩)
end Go.Proofs.YtbfndladaldajaaDoor
/- Package beaconref07: Account: its walk. -/
/- Packages wire and beaconref07: a number's bytes: walks, contracts. -/
namespace Go.Proofs.YtbfndladaldajaaDoor
open Go Go.Eng Go.RowKit
set_option linter.unusedVariables false
set_option linter.unusedSimpArgs false
set_option maxRecDepth 100000
theorem room8 (n : Nat) (h : n ≤ 140737488355328) : Room Tryd.prog 5 n := by
  have h1 : (Tryd.prog.info? 5).map (·.bytes) = some 1 := by kernel_rfl
  cases hq : Tryd.prog.info? 5 with
  | none => rw [hq] at h1; cases h1
  | some j =>
    rw [hq] at h1
    have : j.bytes = 1 := by simpa using h1
    exact ⟨j, hq, by rw [this]; omega, by omega⟩
theorem wu8 (n : Int) : IntKind.u8.wrap n = n % 256 := by
  rw [IntKind.wrap_u8]
theorem wi64 (n : Int) (h0 : -9223372036854775808 ≤ n) (h1 : n < 9223372036854775808) : IntKind.i64.wrap n = n := by rw [IntKind.wrap_i64]; omega
theorem wu32 (n : Int) : IntKind.u32.wrap n = n % 4294967296 := by
  rw [IntKind.wrap_u32]
def b4 (v : Int) : List Int := [IntKind.u8.wrap (v.fdiv 16777216), IntKind.u8.wrap (v.fdiv 65536), IntKind.u8.wrap (v.fdiv 256), IntKind.u8.wrap v]
theorem b4_len (v : Int) : (b4 v).length = 4 := rfl
namespace rfour
variable {G : Glob}
end rfour
namespace four
variable {G : Glob}
noncomputable abbrev fn := Tryd.f39
noncomputable def body : Code := bodyOf fn
abbrev iv (v : Int) : SV := .o (.a (.v (.int .i64 v)))
-- of nothing
abbrev nilV : SV := .o (.a (.v (.slice none 0 0)))
noncomputable def ne (G : Glob) (v : Int) : St := outS ([] : Cons Tryd.prog G) tys 100 body ⟨startT fn [nilV, iv v], [], []⟩
theorem nex (v : Int) : exec ([] : Cons Tryd.prog G) tys 100 body ⟨startT fn [nilV, iv v], [], []⟩ = some (.ret, ⟨(ne G v).tm, (ne G v).mem, []⟩, [0 + 4 ≤ 4, 1 ≤ 4, Room Tryd.prog 5 4]) := by kernel_rfl
theorem nres (v : Int) : eRes tys (ne G v).tm (fun k => (ne G v).mem[k]?) fn.results.toList = some [.a (.slg 1 4)] := by kernel_rfl
theorem nrow (v : Int) : (ne G v).mem[1]? = some ⟨true, 5, .gro .u8 (b4 v) 4 none⟩ := by kernel_rfl
def nspec : List PArg → Option (SV × LEff × Cst)
  | [.val (.o (.a (.v (.slice none 0 0)))), .val (.o (.a (.v (.int .i64 v))))] => some (.o (.a (.slg 0 4)), .new 5 (.gro .u8 (b4 v) 4 none), [])
  | _ => none
-- in place
noncomputable def is (xs : List Int) (ty : TypeId) (n lo : Nat) (v : Int) : St := ⟨startT fn [.o (.a (.slg 0 n)), iv v], [⟨true, ty, .gro .u8 xs lo none⟩], []⟩
noncomputable def ie (G : Glob) (xs : List Int) (ty : TypeId) (n lo : Nat) (v : Int) : St := outS ([] : Cons Tryd.prog G) tys 100 body (is xs ty n lo v)
theorem iex (xs : List Int) (ty : TypeId) (n lo : Nat) (v : Int) : exec ([] : Cons Tryd.prog G) tys 100 body (is xs ty n lo v) = some (.ret, ⟨(ie G xs ty n lo v).tm, (ie G xs ty n lo v).mem, []⟩, [0 + 4 ≤ 4, n = xs.length, n + 4 ≤ lo]) := by kernel_rfl
theorem ires (xs : List Int) (ty : TypeId) (n lo : Nat) (v : Int) : eRes tys (ie G xs ty n lo v).tm (fun k => (ie G xs ty n lo v).mem[k]?) fn.results.toList = some [.a (.slg 0 (n + 4))] := by kernel_rfl
theorem irow (xs : List Int) (ty : TypeId) (n lo : Nat) (v : Int) : (ie G xs ty n lo v).mem[0]? = some ⟨true, ty, .gro .u8 (xs ++ b4 v) lo none⟩ := by kernel_rfl
-- beside
noncomputable def gs (xs : List Int) (ty : TypeId) (n lo h : Nat) (v : Int) : St := ⟨startT fn [.o (.a (.slg 0 n)), iv v], [⟨false, ty, .gro .u8 xs lo (some h)⟩], []⟩
noncomputable def ge (G : Glob) (xs : List Int) (ty : TypeId) (n lo h : Nat) (v : Int) : St := outS ([] : Cons Tryd.prog G) tys 100 body (gs xs ty n lo h v)
theorem gex (xs : List Int) (ty : TypeId) (n lo h : Nat) (v : Int) : exec ([] : Cons Tryd.prog G) tys 100 body (gs xs ty n lo h v) = some (.ret, ⟨(ge G xs ty n lo h v).tm, (ge G xs ty n lo h v).mem, []⟩, [0 + 4 ≤ 4, n = xs.length, h ≤ n + 4, Room Tryd.prog 5 (n + 4)]) := by kernel_rfl
theorem gres (xs : List Int) (ty : TypeId) (n lo h : Nat) (v : Int) : eRes tys (ge G xs ty n lo h v).tm (fun k => (ge G xs ty n lo h v).mem[k]?) fn.results.toList = some [.a (.slg 2 (n + 4))] := by kernel_rfl
theorem grow (xs : List Int) (ty : TypeId) (n lo h : Nat) (v : Int) : (ge G xs ty n lo h v).mem[2]? = some ⟨true, 5, .gro .u8 (xs ++ b4 v) (n + 4) none⟩ := by kernel_rfl
-- in a buffer
noncomputable def bs (xs : List Int) (ty : TypeId) (o n c : Nat) (v : Int) : St := ⟨startT fn [.o (.a (.sld 0 0 o n c)), iv v], [⟨true, ty, .run .u8 xs⟩], []⟩
noncomputable def be (G : Glob) (xs : List Int) (ty : TypeId) (o n c : Nat) (v : Int) : St := outS ([] : Cons Tryd.prog G) tys 100 body (bs xs ty o n c v)
theorem bex (xs : List Int) (ty : TypeId) (o n c : Nat) (v : Int) : exec ([] : Cons Tryd.prog G) tys 100 body (bs xs ty o n c v) = some (.ret, ⟨(be G xs ty o n c v).tm, (be G xs ty o n c v).mem, []⟩, [0 + 4 ≤ 4, n + 4 ≤ c, o + n + 4 ≤ xs.length]) := by kernel_rfl
theorem bres (xs : List Int) (ty : TypeId) (o n c : Nat) (v : Int) : eRes tys (be G xs ty o n c v).tm (fun k => (be G xs ty o n c v).mem[k]?) fn.results.toList = some [.a (.sld 0 0 o (n + 4) c)] := by kernel_rfl
theorem brow (xs : List Int) (ty : TypeId) (o n c : Nat) (v : Int) : (be G xs ty o n c v).mem[0]? = some ⟨true, ty, .run .u8 (putI (o + n) (b4 v) 0 xs)⟩ := by kernel_rfl
def bspec : List PArg → Option (SV × LEff × Cst)
  | [.buf .u8 ty xs l o n c, .val (.o (.a (.v (.int .i64 v))))] => some (.o (.a (.sld 0 0 o (n + 4) c)), .upd ty (.run .u8 (putI (o + n) (b4 v) 0 xs)), [n + 4 ≤ c, o + n + 4 ≤ xs.length])
  | _ => none
noncomputable def nilC {G : Glob} : Con Tryd.prog G := Con.parts tys_ok 39 fn Tryd.func39 (by kernel_rfl) (c := body) (by kernel_rfl) [.val, .val] nspec
  (fun ps r e p h hp => by
    unfold nspec at h
    split at h <;> cases h
    exact ⟨rfl, fun b hb => by cases hb⟩)
  (fun ps r e p cap h hp hi => by
    unfold nspec at h
    split at h <;> cases h
    exact Runs.of_exec tys_ok mixed (nex _) ⟨by omega, by omega, room8 _ (by omega), trivial⟩ (EndsM.ret (nres _) ⟨1, rfl, nrow _⟩))
theorem nil_fr {G : Glob} : ∀ m fr fr' args, (nilC (G := G)).spec m fr args = none → (nilC (G := G)).spec m fr' args = none := fun _ _ _ _ h => Con.parts_fr _ _ _ _ _ _ _ _ _ _ _ _ _ _ h
noncomputable def bufC {G : Glob} : Con Tryd.prog G := Con.parts tys_ok 39 fn Tryd.func39 (by kernel_rfl) (c := body) (by kernel_rfl) [.buf .u8, .val] bspec
  (fun ps r e p h hp => by
    unfold bspec at h
    split at h <;> cases h
    exact ⟨(fun k hk => by simpa [SV.ids, SV1.ids, Atom.ids] using hk), rfl, ⟨_, rfl, rfl, rfl⟩, (fun i b h => by simp [locBlks, PArg.blk] at h), fun kd ty xs o n c rest h => by cases h; exact ⟨_, rfl, putI_length _ _ _ _⟩⟩)
  (fun ps r e p cap h hp hi => by
    unfold bspec at h
    split at h <;> cases h
    exact Runs.of_exec tys_ok mixed (bex _ _ _ _ _ _) ⟨by omega, hp.1, hp.2.1, trivial⟩ (EndsM.ret (bres _ _ _ _ _ _) ⟨rfl, brow _ _ _ _ _ _⟩))
theorem buf_fr {G : Glob} : ∀ m fr fr' args, (bufC (G := G)).spec m fr args = none → (bufC (G := G)).spec m fr' args = none := fun _ _ _ _ h => Con.parts_fr _ _ _ _ _ _ _ _ _ _ _ _ _ _ h
def inD : Dec Tryd.prog GroA := Dec.gro Tryd.prog .u8 true (fun x => .o (.a (.slg 0 (x.n + 4)))) (fun x => .upd x.ty (.gro .u8 (x.xs ++ b4 x.v) x.lo none)) (fun x => [x.k = .i64, x.n = x.xs.length, x.n + 4 ≤ x.lo])
  (fun x => ⟨rfl, rfl, rfl, fun k hk => by simpa [SV.ids, SV1.ids, Atom.ids] using hk⟩)
noncomputable def groC {G : Glob} : Con Tryd.prog G := Con.hand tys_ok 39 fn Tryd.func39 (by kernel_rfl) (c := body) (by kernel_rfl) inD
  (fun x hc hi => by
    obtain ⟨xs, n, lo, hi', ty, k, v⟩ := x
    obtain ⟨h1, h2, h3, _⟩ := hc
    have hi : hi'.isNone = true := hi
    cases hi' with
    | some h => cases hi
    | none =>
      cases h1
      exact Runs.of_exec tys_ok mixed (iex xs ty n lo v) ⟨by omega, h2, h3, trivial⟩ (EndsM.ret (ires xs ty n lo v) ⟨rfl, irow xs ty n lo v⟩))
theorem gro_fr {G : Glob} : ∀ m fr fr' args, (groC (G := G)).spec m fr args = none → (groC (G := G)).spec m fr' args = none := fun _ _ _ _ h => Con.hand_fr _ _ _ _ _ _ _ _ _ _ _ _ h
def bsD : Dec Tryd.prog GroA := Dec.gro Tryd.prog .u8 false (fun x => .o (.a (.slg 0 (x.n + 4)))) (fun x => .new 5 (.gro .u8 (x.xs ++ b4 x.v) (x.n + 4) none)) (fun x => [x.k = .i64, x.n = x.xs.length, ∀ h, x.hi = some h → h ≤ x.n + 4, x.n + 4 ≤ 140737488355328])
  (fun x => ⟨rfl, rfl⟩)
noncomputable def bsC {G : Glob} : Con Tryd.prog G := Con.hand tys_ok 39 fn Tryd.func39 (by kernel_rfl) (c := body) (by kernel_rfl) bsD
  (fun x hc hi => by
    obtain ⟨xs, n, lo, hi', ty, k, v⟩ := x
    obtain ⟨h1, h2, h3, h4, _⟩ := hc
    have hi : hi'.isNone = false := hi
    cases hi' with
    | none => cases hi
    | some h =>
      cases h1
      exact Runs.of_exec tys_ok mixed (gex xs ty n lo h v) ⟨by omega, h2, h3 h rfl, room8 _ h4, trivial⟩ (EndsM.ret (gres xs ty n lo h v) ⟨2, rfl, grow xs ty n lo h v⟩))
end four
noncomputable def four_con {G : Glob} : Con Tryd.prog G := Con.or four.nilC (Con.or four.bufC (Con.or four.groC four.bsC rfl four.gro_fr) rfl four.buf_fr) rfl four.nil_fr
end Go.Proofs.YtbfndladaldajaaDoor
/- Packages wire and beaconref07: a number's eight bytes: walks, contracts. -/
namespace Go.Proofs.YtbfndladaldajaaDoor
open Go Go.Eng Go.RowKit
set_option linter.unusedVariables false
set_option linter.unusedSimpArgs false
set_option maxRecDepth 100000
def num8 (v : Int) : List Int := [IntKind.u8.wrap (v.fdiv 72057594037927936), IntKind.u8.wrap (v.fdiv 281474976710656), IntKind.u8.wrap (v.fdiv 1099511627776), IntKind.u8.wrap (v.fdiv 4294967296), IntKind.u8.wrap (v.fdiv 16777216), IntKind.u8.wrap (v.fdiv 65536), IntKind.u8.wrap (v.fdiv 256), IntKind.u8.wrap (v.fdiv 1)]
def numH (v : Int) : Int := IntKind.i64.wrap (v.fdiv 4294967296)
def numL (v : Int) : Int := IntKind.i64.wrap (IntKind.u32.wrap v)
theorem num8_eq {v : Int} (h0 : 0 ≤ v) (h1 : v < 18446744073709551616) : b4 (numH v) ++ b4 (numL v) = num8 v := by
  have e1 : numH v = v / 4294967296 := by
    unfold numH
    rw [Int.fdiv_eq_ediv_of_nonneg _ (by decide), wi64 _ (by omega) (by omega)]
  have e2 : numL v = v % 4294967296 := by
    unfold numL
    rw [wu32, wi64 _ (by omega) (by omega)]
  unfold b4 num8
  rw [e1, e2]
  simp only [Int.fdiv_eq_ediv_of_nonneg _ (show (0 : Int) ≤ 16777216 by decide), Int.fdiv_eq_ediv_of_nonneg _ (show (0 : Int) ≤ 65536 by decide), Int.fdiv_eq_ediv_of_nonneg _ (show (0 : Int) ≤ 256 by decide), Int.fdiv_eq_ediv_of_nonneg _ (show (0 : Int) ≤ 72057594037927936 by decide), Int.fdiv_eq_ediv_of_nonneg _ (show (0 : Int) ≤ 281474976710656 by decide), Int.fdiv_eq_ediv_of_nonneg _ (show (0 : Int) ≤ 1099511627776 by decide), Int.fdiv_eq_ediv_of_nonneg _ (show (0 : Int) ≤ 4294967296 by decide), Int.fdiv_eq_ediv_of_nonneg _ (show (0 : Int) ≤ 1 by decide), wu8, List.cons_append, List.nil_append, List.cons.injEq, and_true]
  exact ⟨by omega, by omega, by omega, trivial, by omega, by omega, by omega, by omega⟩
namespace rnum
variable {G : Glob}
end rnum
namespace num
variable {G : Glob}
noncomputable abbrev fn := Tryd.f28
noncomputable def body : Code := bodyOf fn
noncomputable def Γ : Cons Tryd.prog G := [four_con]
noncomputable def R1 : Code := cs1 (csuf 1 body)
noncomputable def T : Code := cs2 (csuf 1 body)
noncomputable def i1 : Nat := match R1 with | .region i _ _ => i | _ => 0
theorem suf_eq : csuf 1 body = .seq (.region i1 (opsOf R1) false) T := by kernel_rfl
def M0 (v : Int) : List (Option SV) := maskL 11 0 [(0, .o (.a (.v (.int .u64 v))))]
def M1 (v : Int) : List (Option SV) := maskL 11 0 [(0, .o (.a (.v (.int .u64 v)))), (6, .o (.a (.slg 0 4)))]
def M2 (b : Nat) : List (Option SV) := maskL 11 0 [(2, .o (.a (.slg b 8)))]
def m1 (v : Int) (lo : Nat) (hi : Option Nat) : List Blk := [⟨true, 5, .gro .u8 (b4 (numH v)) lo hi⟩]
def mI (v : Int) : List Blk := [⟨true, 5, .gro .u8 (b4 (numH v) ++ b4 (numL v)) 8 none⟩]
def mG (v : Int) : List Blk := [⟨true, 5, .gro .u8 (b4 (numH v)) 4 (some 8)⟩, ⟨true, 5, .gro .u8 (b4 (numH v) ++ b4 (numL v)) 8 none⟩]
theorem ids0 (v : Int) : idsIn 0 (M0 v) [] = true := by kernel_rfl
theorem ids1 (v : Int) (lo : Nat) (hi : Option Nat) : idsIn (m1 v lo hi).length (M1 v) (m1 v lo hi) = true := by kernel_rfl
theorem idsI (v : Int) : idsIn (mI v).length (M2 0) (mI v) = true := by kernel_rfl
theorem idsG (v : Int) : idsIn (mG v).length (M2 1) (mG v) = true := by kernel_rfl
theorem s0 (v : Int) : outX ([] : List Blk).length (M0 v) (exec (Γ (G := G)) tys 100 (cpre 1 body) ⟨startT fn [.o (.a (.v (.int .u64 v)))], [], []⟩) = some (.normal, live (M0 v), (M0 v).length, [], []) := by kernel_rfl
theorem p1 (v : Int) (g : Nat → SV) : outXL (m1 v 4 none).length (M1 v) (runOps (Γ (G := G)) tys (opsOf R1).toList ((opsOf R1).toList.take 4) ⟨fill g 0 (M0 v), [], []⟩) = some (live (M1 v), (M1 v).length, m1 v 4 none, []) := by kernel_rfl
theorem pI (v : Int) (g : Nat → SV) : outXL (mI v).length (M2 0) (runOps (Γ (G := G)) tys (opsOf R1).toList (((opsOf R1).toList.drop 4).take 5) ⟨fill g 0 (M1 v), m1 v 8 none, []⟩) = some (live (M2 0), (M2 0).length, mI v, [IntKind.i64 = .i64, 4 = (b4 (numH v)).length, 4 + 4 ≤ 8]) := by kernel_rfl
theorem pG (v : Int) (g : Nat → SV) : outXL (mG v).length (M2 1) (runOps (Γ (G := G)) tys (opsOf R1).toList (((opsOf R1).toList.drop 4).take 5) ⟨fill g 0 (M1 v), m1 v 4 (some 8), []⟩) = some (live (M2 1), (M2 1).length, mG v, [IntKind.i64 = .i64, 4 = (b4 (numH v)).length, ∀ h, some 8 = some h → h ≤ 4 + 4, 4 + 4 ≤ 140737488355328]) := by kernel_rfl
theorem nil5 : ((opsOf R1).toList.drop 4).drop 5 = [] := by kernel_rfl
theorem T_eq : T = .ret := by kernel_rfl
theorem resI (v : Int) (g : Nat → SV) : eRes tys (fill g 0 (M2 0)) (fun k => (mI v)[k]?) fn.results.toList = some [.a (.slg 0 8)] := by kernel_rfl
theorem resG (v : Int) (g : Nat → SV) : eRes tys (fill g 0 (M2 1)) (fun k => (mG v)[k]?) fn.results.toList = some [.a (.slg 1 8)] := by kernel_rfl
theorem walk (v : Int) : RunsF Tryd.prog G 0 body (startT fn [.o (.a (.v (.int .u64 v)))]) [] (EndsM tys fn (endsQ (.o (.a (.slg 0 8))) (.new 5 (.gro .u8 (b4 (numH v) ++ b4 (numL v)) 8 none)))) := by
  refine Runs.of_outXP tys_ok mixed 1 (s0 v) trivial (ids0 v) rfl fun g => ?_
  rw [suf_eq]
  refine Runs.seq (Runs.region ?_)
  refine RunsL.of_outX tys_ok 4 (p1 v g) trivial (ids1 v 4 none) rfl fun g => ?_
  refine RunsL.room 0 8 (own := true) (ty := 5) (kd := .u8) (xs := b4 (numH v)) (lo := 4) rfl ?_ ?_
  · refine RunsL.of_outX tys_ok 5 (pI v g) ⟨rfl, rfl, by omega, trivial⟩ (idsI v) rfl fun g => ?_
    rw [nil5]
    refine RunsL.nil ?_
    show RunsF _ _ _ T _ _ _
    rw [T_eq]
    exact Runs.of_exec (Γ := Γ) (n := 1) (orc := []) tys_ok mixed rfl trivial (EndsM.ret (resI v g) ⟨0, rfl, rfl⟩)
  · refine RunsL.of_outX tys_ok 5 (pG v g) ⟨rfl, rfl, fun h hh => by cases hh; omega, by omega, trivial⟩ (idsG v) rfl fun g => ?_
    rw [nil5]
    refine RunsL.nil ?_
    show RunsF _ _ _ T _ _ _
    rw [T_eq]
    exact Runs.of_exec (Γ := Γ) (n := 1) (orc := []) tys_ok mixed rfl trivial (EndsM.ret (resG v g) ⟨1, rfl, rfl⟩)
def spec : List PArg → Option (SV × LEff × Cst)
  | [.val (.o (.a (.v (.int .u64 v))))] => some (.o (.a (.slg 0 8)), .new 5 (.gro .u8 (b4 (numH v) ++ b4 (numL v)) 8 none), [])
  | _ => none
end num
noncomputable def num_con {G : Glob} : Con Tryd.prog G := Con.parts tys_ok 28 num.fn Tryd.func28 (by kernel_rfl) (c := num.body) (by kernel_rfl) [.val] num.spec
  (fun ps r e p h hp => by
    unfold num.spec at h
    split at h <;> cases h
    exact ⟨rfl, fun b hb => by cases hb⟩)
  (fun ps r e p cap h hp hi => by
    unfold num.spec at h
    split at h <;> cases h
    exact num.walk _)
end Go.Proofs.YtbfndladaldajaaDoor
/- Package wire: Encode of a list of so many slices: walks, contracts. -/
namespace Go.Proofs.YtbfndladaldajaaDoor
open Go Go.Eng Go.RowKit
set_option linter.unusedVariables false
set_option linter.unusedSimpArgs false
set_option maxRecDepth 100000
def encR : List (List Int) → List Int
  | [] => []
  | y :: r => b4 (y.length : Int) ++ (y ++ encR r)
def encB (ls : List (List Int)) : List Int := b4 (ls.length : Int) ++ encR ls
def encL : List (List Int) → Nat
  | [] => 0
  | y :: r => 4 + y.length + encL r
def encT (ls : List (List Int)) : Nat := 4 + encL ls
theorem encR_len : ∀ ls, (encR ls).length = encL ls
  | [] => rfl
  | y :: r => by simp only [encR, encL, List.length_append, encR_len r, b4_len]; omega
theorem encB_len (ls : List (List Int)) : (encB ls).length = encT ls := by simp only [encB, encT, List.length_append, encR_len, b4_len]
theorem put_buf (D ys : List Int) (r : Nat) : putI (0 + D.length) ys 0 (D ++ List.replicate (ys.length + r) 0) = (D ++ ys) ++ List.replicate r 0 := by
  rw [putI_spec _ _ _ (by simp only [List.length_append, List.length_replicate]; omega), Nat.zero_add, List.take_left, ← List.drop_drop, List.drop_left, List.append_assoc]
  congr 1
  rw [List.drop_replicate]
  congr 1
  congr 1
  omega
def putA : List (Nat × List Int) → Nat → List Int → List Int
  | [], _, xs => xs
  | (k, y) :: r, n, xs => putA r (n + 4 + k) (putI (0 + (n + 4)) y 0 (putI (0 + n) (b4 (k : Int)) 0 xs))
theorem putA_spec : ∀ (ls : List (List Int)) (D : List Int) (n : Nat), n = D.length → putA (ls.map fun y => (y.length, y)) n (D ++ List.replicate (encL ls) 0) = D ++ encR ls
  | [], D, n, h => by simp [putA, encL, encR]
  | y :: r, D, n, h => by
    subst h
    have e1 : encL (y :: r) = (b4 (y.length : Int)).length + (y.length + encL r) := by rw [b4_len]; simp only [encL]; omega
    simp only [List.map_cons, putA]
    rw [e1, put_buf D]
    have e2 : D.length + 4 = (D ++ b4 (y.length : Int)).length := by rw [List.length_append, b4_len]
    rw [e2, put_buf, putA_spec r _ _ (by simp only [List.length_append, b4_len])]
    simp only [encR, List.append_assoc]
theorem put_all (ls : List (List Int)) : putA (ls.map fun y => (y.length, y)) 4 (putI (0 + 0) (b4 (ls.length : Int)) 0 (List.replicate (encT ls) 0)) = encB ls := by
  have h := put_buf [] (b4 (ls.length : Int)) (encL ls)
  simp only [List.nil_append, List.length_nil, b4_len] at h
  unfold encT
  rw [h, putA_spec ls _ 4 (by rw [b4_len])]
  rfl
theorem shp_cons {its : List Itm} {r : List Bool} (h : shapeI its = true :: r) : ∃ a t, its = .w a :: t ∧ shapeI t = r := by
  cases its with
  | nil => cases h
  | cons x t =>
    simp only [shapeI, List.cons.injEq] at h
    cases x with
    | w a => exact ⟨a, t, rfl, h.2⟩
    | v a => cases h.1
theorem shp_nil {its : List Itm} (h : shapeI its = []) : its = [] := by
  cases its with
  | nil => rfl
  | cons x t => cases h
theorem dt (y : List Int) (n : Nat) (h : y.length = n) : (y.drop 0).take n = y := by rw [List.drop_zero, List.take_of_length_le (by omega)]
def encRes (ls : List (List Int)) : SV := .t [.a (.sld 0 0 0 (encT ls) (encT ls)), .a (.v (.int .i64 0))]
namespace enc
noncomputable abbrev fn := Tryd.f20
noncomputable def body : Code := bodyOf fn
noncomputable def Γ {G : Glob} : Cons Tryd.prog G := [four_con]
namespace k4
noncomputable def e (G : Glob) (y1 : List Int) (n1 : Nat) (t1 : TypeId) (y2 : List Int) (n2 : Nat) (t2 : TypeId) (y3 : List Int) (n3 : Nat) (t3 : TypeId) (y4 : List Int) (n4 : Nat) (t4 : TypeId) (ty : TypeId) : St := outS (Γ (G := G)) tys 200 body ⟨startT fn [.o (.a (.slc 0 0 4 4))], [⟨false, ty, .lit [.slg 1 n1, .slg 2 n2, .slg 3 n3, .slg 4 n4]⟩, ⟨false, t1, .pre .u8 y1⟩, ⟨false, t2, .pre .u8 y2⟩, ⟨false, t3, .pre .u8 y3⟩, ⟨false, t4, .pre .u8 y4⟩], [(20, [.n ((4 + 4 : Nat) : Int), .n ((4 + 4 + n1 + 4 : Nat) : Int), .n ((4 + 4 + n1 + 4 + n2 + 4 : Nat) : Int), .n ((4 + 4 + n1 + 4 + n2 + 4 + n3 + 4 : Nat) : Int)]), (24, [.n (1048576 - ((4 + 4 : Nat) : Int)), .n (1048576 - ((4 + 4 + n1 + 4 : Nat) : Int)), .n (1048576 - ((4 + 4 + n1 + 4 + n2 + 4 : Nat) : Int)), .n (1048576 - ((4 + 4 + n1 + 4 + n2 + 4 + n3 + 4 : Nat) : Int))]), (25, [.b false, .b false, .b false, .b false]), (29, [.n ((4 + 4 + n1 : Nat) : Int), .n ((4 + 4 + n1 + 4 + n2 : Nat) : Int), .n ((4 + 4 + n1 + 4 + n2 + 4 + n3 : Nat) : Int), .n ((4 + 4 + n1 + 4 + n2 + 4 + n3 + 4 + n4 : Nat) : Int)])]⟩
def c (y1 : List Int) (n1 : Nat) (t1 : TypeId) (y2 : List Int) (n2 : Nat) (t2 : TypeId) (y3 : List Int) (n3 : Nat) (t3 : TypeId) (y4 : List Int) (n4 : Nat) (t4 : TypeId) (ty : TypeId) : Cst := [IntKind.i64.wrap (((4 : Nat) : Int) + 4) = ((4 + 4 : Nat) : Int), IntKind.i64.wrap (1048576 - ((4 + 4 : Nat) : Int)) = 1048576 - ((4 + 4 : Nat) : Int), decide (((n1 : Nat) : Int) > 1048576 - ((4 + 4 : Nat) : Int)) = false, IntKind.i64.wrap (((4 + 4 : Nat) : Int) + ((n1 : Nat) : Int)) = ((4 + 4 + n1 : Nat) : Int), IntKind.i64.wrap (((4 + 4 + n1 : Nat) : Int) + 4) = ((4 + 4 + n1 + 4 : Nat) : Int), IntKind.i64.wrap (1048576 - ((4 + 4 + n1 + 4 : Nat) : Int)) = 1048576 - ((4 + 4 + n1 + 4 : Nat) : Int), decide (((n2 : Nat) : Int) > 1048576 - ((4 + 4 + n1 + 4 : Nat) : Int)) = false, IntKind.i64.wrap (((4 + 4 + n1 + 4 : Nat) : Int) + ((n2 : Nat) : Int)) = ((4 + 4 + n1 + 4 + n2 : Nat) : Int), IntKind.i64.wrap (((4 + 4 + n1 + 4 + n2 : Nat) : Int) + 4) = ((4 + 4 + n1 + 4 + n2 + 4 : Nat) : Int), IntKind.i64.wrap (1048576 - ((4 + 4 + n1 + 4 + n2 + 4 : Nat) : Int)) = 1048576 - ((4 + 4 + n1 + 4 + n2 + 4 : Nat) : Int), decide (((n3 : Nat) : Int) > 1048576 - ((4 + 4 + n1 + 4 + n2 + 4 : Nat) : Int)) = false, IntKind.i64.wrap (((4 + 4 + n1 + 4 + n2 + 4 : Nat) : Int) + ((n3 : Nat) : Int)) = ((4 + 4 + n1 + 4 + n2 + 4 + n3 : Nat) : Int), IntKind.i64.wrap (((4 + 4 + n1 + 4 + n2 + 4 + n3 : Nat) : Int) + 4) = ((4 + 4 + n1 + 4 + n2 + 4 + n3 + 4 : Nat) : Int), IntKind.i64.wrap (1048576 - ((4 + 4 + n1 + 4 + n2 + 4 + n3 + 4 : Nat) : Int)) = 1048576 - ((4 + 4 + n1 + 4 + n2 + 4 + n3 + 4 : Nat) : Int), decide (((n4 : Nat) : Int) > 1048576 - ((4 + 4 + n1 + 4 + n2 + 4 + n3 + 4 : Nat) : Int)) = false, IntKind.i64.wrap (((4 + 4 + n1 + 4 + n2 + 4 + n3 + 4 : Nat) : Int) + ((n4 : Nat) : Int)) = ((4 + 4 + n1 + 4 + n2 + 4 + n3 + 4 + n4 : Nat) : Int), (0 : Int) ≤ 0, (0 : Int) ≤ ((4 + 4 + n1 + 4 + n2 + 4 + n3 + 4 + n4 : Nat) : Int), Room Tryd.prog 5 (4 + 4 + n1 + 4 + n2 + 4 + n3 + 4 + n4), 0 ≤ 4 + 4 + n1 + 4 + n2 + 4 + n3 + 4 + n4, 0 + 4 ≤ 4 + 4 + n1 + 4 + n2 + 4 + n3 + 4 + n4, 0 + 0 + 4 ≤ (List.replicate (4 + 4 + n1 + 4 + n2 + 4 + n3 + 4 + n4) (0 : Int)).length, 4 ≤ 4 + 4 + n1 + 4 + n2 + 4 + n3 + 4 + n4, 4 + 4 ≤ 4 + 4 + n1 + 4 + n2 + 4 + n3 + 4 + n4, 0 + (4) + 4 ≤ (putI (0 + 0) (b4 ((4 : Nat) : Int)) 0 (List.replicate (4 + 4 + n1 + 4 + n2 + 4 + n3 + 4 + n4) (0 : Int))).length, 0 + n1 ≤ y1.length, 4 + 4 + n1 ≤ 4 + 4 + n1 + 4 + n2 + 4 + n3 + 4 + n4, 0 + (4 + 4) + n1 ≤ (putI (0 + (4)) (b4 ((n1 : Nat) : Int)) 0 (putI (0 + 0) (b4 ((4 : Nat) : Int)) 0 (List.replicate (4 + 4 + n1 + 4 + n2 + 4 + n3 + 4 + n4) (0 : Int)))).length, 4 + 4 + n1 ≤ 4 + 4 + n1 + 4 + n2 + 4 + n3 + 4 + n4, 4 + 4 + n1 + 4 ≤ 4 + 4 + n1 + 4 + n2 + 4 + n3 + 4 + n4, 0 + (4 + 4 + n1) + 4 ≤ (putI (0 + (4 + 4)) ((y1.drop 0).take n1) 0 (putI (0 + (4)) (b4 ((n1 : Nat) : Int)) 0 (putI (0 + 0) (b4 ((4 : Nat) : Int)) 0 (List.replicate (4 + 4 + n1 + 4 + n2 + 4 + n3 + 4 + n4) (0 : Int))))).length, 0 + n2 ≤ y2.length, 4 + 4 + n1 + 4 + n2 ≤ 4 + 4 + n1 + 4 + n2 + 4 + n3 + 4 + n4, 0 + (4 + 4 + n1 + 4) + n2 ≤ (putI (0 + (4 + 4 + n1)) (b4 ((n2 : Nat) : Int)) 0 (putI (0 + (4 + 4)) ((y1.drop 0).take n1) 0 (putI (0 + (4)) (b4 ((n1 : Nat) : Int)) 0 (putI (0 + 0) (b4 ((4 : Nat) : Int)) 0 (List.replicate (4 + 4 + n1 + 4 + n2 + 4 + n3 + 4 + n4) (0 : Int)))))).length, 4 + 4 + n1 + 4 + n2 ≤ 4 + 4 + n1 + 4 + n2 + 4 + n3 + 4 + n4, 4 + 4 + n1 + 4 + n2 + 4 ≤ 4 + 4 + n1 + 4 + n2 + 4 + n3 + 4 + n4, 0 + (4 + 4 + n1 + 4 + n2) + 4 ≤ (putI (0 + (4 + 4 + n1 + 4)) ((y2.drop 0).take n2) 0 (putI (0 + (4 + 4 + n1)) (b4 ((n2 : Nat) : Int)) 0 (putI (0 + (4 + 4)) ((y1.drop 0).take n1) 0 (putI (0 + (4)) (b4 ((n1 : Nat) : Int)) 0 (putI (0 + 0) (b4 ((4 : Nat) : Int)) 0 (List.replicate (4 + 4 + n1 + 4 + n2 + 4 + n3 + 4 + n4) (0 : Int))))))).length, 0 + n3 ≤ y3.length, 4 + 4 + n1 + 4 + n2 + 4 + n3 ≤ 4 + 4 + n1 + 4 + n2 + 4 + n3 + 4 + n4, 0 + (4 + 4 + n1 + 4 + n2 + 4) + n3 ≤ (putI (0 + (4 + 4 + n1 + 4 + n2)) (b4 ((n3 : Nat) : Int)) 0 (putI (0 + (4 + 4 + n1 + 4)) ((y2.drop 0).take n2) 0 (putI (0 + (4 + 4 + n1)) (b4 ((n2 : Nat) : Int)) 0 (putI (0 + (4 + 4)) ((y1.drop 0).take n1) 0 (putI (0 + (4)) (b4 ((n1 : Nat) : Int)) 0 (putI (0 + 0) (b4 ((4 : Nat) : Int)) 0 (List.replicate (4 + 4 + n1 + 4 + n2 + 4 + n3 + 4 + n4) (0 : Int)))))))).length, 4 + 4 + n1 + 4 + n2 + 4 + n3 ≤ 4 + 4 + n1 + 4 + n2 + 4 + n3 + 4 + n4, 4 + 4 + n1 + 4 + n2 + 4 + n3 + 4 ≤ 4 + 4 + n1 + 4 + n2 + 4 + n3 + 4 + n4, 0 + (4 + 4 + n1 + 4 + n2 + 4 + n3) + 4 ≤ (putI (0 + (4 + 4 + n1 + 4 + n2 + 4)) ((y3.drop 0).take n3) 0 (putI (0 + (4 + 4 + n1 + 4 + n2)) (b4 ((n3 : Nat) : Int)) 0 (putI (0 + (4 + 4 + n1 + 4)) ((y2.drop 0).take n2) 0 (putI (0 + (4 + 4 + n1)) (b4 ((n2 : Nat) : Int)) 0 (putI (0 + (4 + 4)) ((y1.drop 0).take n1) 0 (putI (0 + (4)) (b4 ((n1 : Nat) : Int)) 0 (putI (0 + 0) (b4 ((4 : Nat) : Int)) 0 (List.replicate (4 + 4 + n1 + 4 + n2 + 4 + n3 + 4 + n4) (0 : Int))))))))).length, 0 + n4 ≤ y4.length, 4 + 4 + n1 + 4 + n2 + 4 + n3 + 4 + n4 ≤ 4 + 4 + n1 + 4 + n2 + 4 + n3 + 4 + n4, 0 + (4 + 4 + n1 + 4 + n2 + 4 + n3 + 4) + n4 ≤ (putI (0 + (4 + 4 + n1 + 4 + n2 + 4 + n3)) (b4 ((n4 : Nat) : Int)) 0 (putI (0 + (4 + 4 + n1 + 4 + n2 + 4)) ((y3.drop 0).take n3) 0 (putI (0 + (4 + 4 + n1 + 4 + n2)) (b4 ((n3 : Nat) : Int)) 0 (putI (0 + (4 + 4 + n1 + 4)) ((y2.drop 0).take n2) 0 (putI (0 + (4 + 4 + n1)) (b4 ((n2 : Nat) : Int)) 0 (putI (0 + (4 + 4)) ((y1.drop 0).take n1) 0 (putI (0 + (4)) (b4 ((n1 : Nat) : Int)) 0 (putI (0 + 0) (b4 ((4 : Nat) : Int)) 0 (List.replicate (4 + 4 + n1 + 4 + n2 + 4 + n3 + 4 + n4) (0 : Int)))))))))).length]
theorem ex {G : Glob} (y1 : List Int) (n1 : Nat) (t1 : TypeId) (y2 : List Int) (n2 : Nat) (t2 : TypeId) (y3 : List Int) (n3 : Nat) (t3 : TypeId) (y4 : List Int) (n4 : Nat) (t4 : TypeId) (ty : TypeId) : exec (Γ (G := G)) tys 200 body ⟨startT fn [.o (.a (.slc 0 0 4 4))], [⟨false, ty, .lit [.slg 1 n1, .slg 2 n2, .slg 3 n3, .slg 4 n4]⟩, ⟨false, t1, .pre .u8 y1⟩, ⟨false, t2, .pre .u8 y2⟩, ⟨false, t3, .pre .u8 y3⟩, ⟨false, t4, .pre .u8 y4⟩], [(20, [.n ((4 + 4 : Nat) : Int), .n ((4 + 4 + n1 + 4 : Nat) : Int), .n ((4 + 4 + n1 + 4 + n2 + 4 : Nat) : Int), .n ((4 + 4 + n1 + 4 + n2 + 4 + n3 + 4 : Nat) : Int)]), (24, [.n (1048576 - ((4 + 4 : Nat) : Int)), .n (1048576 - ((4 + 4 + n1 + 4 : Nat) : Int)), .n (1048576 - ((4 + 4 + n1 + 4 + n2 + 4 : Nat) : Int)), .n (1048576 - ((4 + 4 + n1 + 4 + n2 + 4 + n3 + 4 : Nat) : Int))]), (25, [.b false, .b false, .b false, .b false]), (29, [.n ((4 + 4 + n1 : Nat) : Int), .n ((4 + 4 + n1 + 4 + n2 : Nat) : Int), .n ((4 + 4 + n1 + 4 + n2 + 4 + n3 : Nat) : Int), .n ((4 + 4 + n1 + 4 + n2 + 4 + n3 + 4 + n4 : Nat) : Int)])]⟩ = some (.ret, ⟨(e G y1 n1 t1 y2 n2 t2 y3 n3 t3 y4 n4 t4 ty ).tm, (e G y1 n1 t1 y2 n2 t2 y3 n3 t3 y4 n4 t4 ty ).mem, (e G y1 n1 t1 y2 n2 t2 y3 n3 t3 y4 n4 t4 ty ).orc⟩, c y1 n1 t1 y2 n2 t2 y3 n3 t3 y4 n4 t4 ty ) := by kernel_rfl
theorem res {G : Glob} (y1 : List Int) (n1 : Nat) (t1 : TypeId) (y2 : List Int) (n2 : Nat) (t2 : TypeId) (y3 : List Int) (n3 : Nat) (t3 : TypeId) (y4 : List Int) (n4 : Nat) (t4 : TypeId) (ty : TypeId) : eRes tys (e G y1 n1 t1 y2 n2 t2 y3 n3 t3 y4 n4 t4 ty ).tm (fun k => (e G y1 n1 t1 y2 n2 t2 y3 n3 t3 y4 n4 t4 ty ).mem[k]?) fn.results.toList = some [.a (.sld 5 0 0 (4 + 4 + n1 + 4 + n2 + 4 + n3 + 4 + n4) (4 + 4 + n1 + 4 + n2 + 4 + n3 + 4 + n4)), .a (.v (.int .i64 0))] := by kernel_rfl
theorem row {G : Glob} (y1 : List Int) (n1 : Nat) (t1 : TypeId) (y2 : List Int) (n2 : Nat) (t2 : TypeId) (y3 : List Int) (n3 : Nat) (t3 : TypeId) (y4 : List Int) (n4 : Nat) (t4 : TypeId) (ty : TypeId) : (e G y1 n1 t1 y2 n2 t2 y3 n3 t3 y4 n4 t4 ty ).mem[5]? = some ⟨true, 5, .run .u8 (putA [(n1, (y1.drop 0).take n1), (n2, (y2.drop 0).take n2), (n3, (y3.drop 0).take n3), (n4, (y4.drop 0).take n4)] 4 (putI (0 + 0) (b4 ((4 : Nat) : Int)) 0 (List.replicate (4 + 4 + n1 + 4 + n2 + 4 + n3 + 4 + n4) 0)))⟩ := by kernel_rfl
theorem holds (y1 : List Int) (n1 : Nat) (t1 : TypeId) (y2 : List Int) (n2 : Nat) (t2 : TypeId) (y3 : List Int) (n3 : Nat) (t3 : TypeId) (y4 : List Int) (n4 : Nat) (t4 : TypeId) (ty : TypeId) (h1 : y1.length = n1) (h2 : y2.length = n2) (h3 : y3.length = n3) (h4 : y4.length = n4) (hT : 4 + 4 + n1 + 4 + n2 + 4 + n3 + 4 + n4 ≤ 1048576) : Holds (c y1 n1 t1 y2 n2 t2 y3 n3 t3 y4 n4 t4 ty ) := ⟨by rw [wi64 _ (by omega) (by omega)] <;> omega, by rw [wi64 _ (by omega) (by omega)] <;> omega, decide_eq_false (by omega), by rw [wi64 _ (by omega) (by omega)] <;> omega, by rw [wi64 _ (by omega) (by omega)] <;> omega, by rw [wi64 _ (by omega) (by omega)] <;> omega, decide_eq_false (by omega), by rw [wi64 _ (by omega) (by omega)] <;> omega, by rw [wi64 _ (by omega) (by omega)] <;> omega, by rw [wi64 _ (by omega) (by omega)] <;> omega, decide_eq_false (by omega), by rw [wi64 _ (by omega) (by omega)] <;> omega, by rw [wi64 _ (by omega) (by omega)] <;> omega, by rw [wi64 _ (by omega) (by omega)] <;> omega, decide_eq_false (by omega), by rw [wi64 _ (by omega) (by omega)] <;> omega, by decide, by omega, room8 _ (by omega), by omega, by omega, by simp only [putI_length, List.length_replicate]; omega, by omega, by omega, by simp only [putI_length, List.length_replicate]; omega, by omega, by omega, by simp only [putI_length, List.length_replicate]; omega, by omega, by omega, by simp only [putI_length, List.length_replicate]; omega, by omega, by omega, by simp only [putI_length, List.length_replicate]; omega, by omega, by omega, by simp only [putI_length, List.length_replicate]; omega, by omega, by omega, by simp only [putI_length, List.length_replicate]; omega, by omega, by omega, by simp only [putI_length, List.length_replicate]; omega, by omega, by omega, by simp only [putI_length, List.length_replicate]; omega, trivial⟩
theorem run {G : Glob} (y1 : List Int) (n1 : Nat) (t1 : TypeId) (y2 : List Int) (n2 : Nat) (t2 : TypeId) (y3 : List Int) (n3 : Nat) (t3 : TypeId) (y4 : List Int) (n4 : Nat) (t4 : TypeId) (ty : TypeId) (h1 : y1.length = n1) (h2 : y2.length = n2) (h3 : y3.length = n3) (h4 : y4.length = n4) (hT : encT [y1, y2, y3, y4] ≤ 1048576) :
    RunsF Tryd.prog G 5 body (startT fn [.o (.a (.slc 0 0 4 4))]) [⟨false, ty, .lit [.slg 1 n1, .slg 2 n2, .slg 3 n3, .slg 4 n4]⟩, ⟨false, t1, .pre .u8 y1⟩, ⟨false, t2, .pre .u8 y2⟩, ⟨false, t3, .pre .u8 y3⟩, ⟨false, t4, .pre .u8 y4⟩] (EndsM tys fn (endsQ (encRes [y1, y2, y3, y4]) (.new 5 (.run .u8 (encB [y1, y2, y3, y4]))))) := by
  have hE : encT [y1, y2, y3, y4] = 4 + 4 + n1 + 4 + n2 + 4 + n3 + 4 + n4 := by simp only [encT, encL]; omega
  have hr := row (G := G) y1 n1 t1 y2 n2 t2 y3 n3 t3 y4 n4 t4 ty 
  rw [dt y1 n1 h1, dt y2 n2 h2, dt y3 n3 h3, dt y4 n4 h4] at hr
  refine Runs.of_exec tys_ok mixed (ex y1 n1 t1 y2 n2 t2 y3 n3 t3 y4 n4 t4 ty ) (holds y1 n1 t1 y2 n2 t2 y3 n3 t3 y4 n4 t4 ty h1 h2 h3 h4 (by omega)) (EndsM.ret (res y1 n1 t1 y2 n2 t2 y3 n3 t3 y4 n4 t4 ty ) ⟨5, ?_, ?_⟩)
  · unfold encRes
    rw [hE]
    rfl
  · have h := put_all [y1, y2, y3, y4]
    rw [hE] at h
    rw [hr, ← h, ← h1, ← h2, ← h3, ← h4]
    rfl
theorem good (ls : List (List Int)) : match (LEff.new 5 (.run .u8 (encB ls))) with | .none => (encRes ls).ids = [] | .new _ row => row.ids = [] | .upd _ _ => False := rfl
def D : Dec Tryd.prog LstA := Dec.list Tryd.prog .u8 [true, true, true, true] encRes (fun ls => .new 5 (.run .u8 (encB ls))) (fun ls => [encT ls ≤ 1048576]) good
noncomputable def con {G : Glob} : Con Tryd.prog G := Con.hand tys_ok 20 fn Tryd.func20 (by kernel_rfl) (c := body) (by kernel_rfl) D
  (fun x hc hi => by
    obtain ⟨its, m, ty⟩ := x
    obtain ⟨hs, hn, hy⟩ := hi
    have hp := (holds_append hc).2.1
    simp only at hs hn hy hp
    obtain ⟨a1, t1, rfl, q1⟩ := shp_cons hs
    obtain ⟨a2, t2, rfl, q2⟩ := shp_cons q1
    obtain ⟨a3, t3, rfl, q3⟩ := shp_cons q2
    obtain ⟨a4, t4, rfl, q4⟩ := shp_cons q3
    obtain rfl := shp_nil q4
    have hn : m = 4 := hn
    subst hn
    exact run a1.ys a1.n a1.ty a2.ys a2.n a2.ty a3.ys a3.n a3.ty a4.ys a4.n a4.ty ty (hy a1 (by simp [winsI])) (hy a2 (by simp [winsI])) (hy a3 (by simp [winsI])) (hy a4 (by simp [winsI])) hp)
end k4
end enc
end Go.Proofs.YtbfndladaldajaaDoor
/- Package beaconref07: Encode of a list of so many slices: walks, contracts. -/
/- Packages label and beaconref13: Input: walks, contracts. -/
namespace Go.Proofs.YtbfndladaldajaaDoor
open Go Go.Eng Go.RowKit
set_option linter.unusedVariables false
set_option linter.unusedSimpArgs false
set_option maxRecDepth 100000
def lab : List Int := [108, 97, 98, 101, 108]
def markB (b : Bool) : Int := match b with | true => 1 | false => 0
def inpL (s : List Int) (v : Int) (b : Bool) : List (List Int) := [lab, s, num8 v, [markB b]]
def inpR (s : ByteArray) (w : List Int) (m : Int) : List (List Int) := [([108, 97, 98, 101, 108].drop 0).take 5, ((bytesI s).drop 0).take s.size, (w.drop 0).take 8, ([m].drop 0).take 1]
theorem inpR_eq (s : ByteArray) (w : List Int) (m : Int) (hw : w.length = 8) : inpR s w m = [lab, bytesI s, w, [m]] := by
  unfold inpR
  rw [dt (bytesI s) s.size (bytesI_length s), dt w 8 hw]
  rfl
theorem inpT {s : List Int} {v : Int} {b : Bool} (h : accOk s = true) : encT (inpL s v b) ≤ 1048576 := by
  have h3 : s.length ≤ 32 := by
    unfold accOk at h
    simp only [Bool.and_eq_true, decide_eq_true_eq] at h
    exact h.2.2
  simp only [inpL, encT, encL, lab, num8, List.length_cons, List.length_nil]
  omega
def U64 (v : Int) : Prop := 0 ≤ v ∧ v < 18446744073709551616
def badRes : SV := .t [.a (.v (.slice none 0 0)), .a (.v (.int .i64 1))]
namespace inp
noncomputable abbrev fn := Tryd.f13
noncomputable def body : Code := bodyOf fn
noncomputable def Γ {G : Glob} : Cons Tryd.prog G := [acc_con, num_con, enc.k4.con]
noncomputable def etrue (G : Glob) (s : ByteArray) (v : Int) : St := outS (Γ (G := G)) tys 200 body ⟨startT fn [.o (.a (.v (.string s))), .o (.a (.v (.int .u64 v))), .o (.a (.v (.bool true)))], [], [(10, [.b true]), (14, [.b false])]⟩
theorem extrue {G : Glob} (s : ByteArray) (v : Int) : exec (Γ (G := G)) tys 200 body ⟨startT fn [.o (.a (.v (.string s))), .o (.a (.v (.int .u64 v))), .o (.a (.v (.bool true)))], [], [(10, [.b true]), (14, [.b false])]⟩ = some (.ret, ⟨(etrue G s v).tm, (etrue G s v).mem, (etrue G s v).orc⟩, [accOk (bytesI s) = true, (v == 0) = false, 0 + 5 ≤ 5, 0 + s.size ≤ (bytesI s).length, 0 + 8 ≤ ((b4 (numH v) ++ b4 (numL v))).length, 0 + 1 ≤ 1, encT (inpR s (b4 (numH v) ++ b4 (numL v)) 1) ≤ 1048576]) := by kernel_rfl
theorem restrue {G : Glob} (s : ByteArray) (v : Int) : eRes tys (etrue G s v).tm (fun k => (etrue G s v).mem[k]?) fn.results.toList = some [.a (.sld 5 0 0 (encT (inpR s (b4 (numH v) ++ b4 (numL v)) 1)) (encT (inpR s (b4 (numH v) ++ b4 (numL v)) 1))), .a (.v (.int .i64 0))] := by kernel_rfl
theorem rowtrue {G : Glob} (s : ByteArray) (v : Int) : (etrue G s v).mem[5]? = some ⟨true, 5, .run .u8 (encB (inpR s (b4 (numH v) ++ b4 (numL v)) 1))⟩ := by kernel_rfl
noncomputable def eAtrue (G : Glob) (s : ByteArray) (v : Int) : St := outS (Γ (G := G)) tys 200 body ⟨startT fn [.o (.a (.v (.string s))), .o (.a (.v (.int .u64 v))), .o (.a (.v (.bool true)))], [], [(10, [.b false])]⟩
theorem exAtrue {G : Glob} (s : ByteArray) (v : Int) : exec (Γ (G := G)) tys 200 body ⟨startT fn [.o (.a (.v (.string s))), .o (.a (.v (.int .u64 v))), .o (.a (.v (.bool true)))], [], [(10, [.b false])]⟩ = some (.ret, ⟨(eAtrue G s v).tm, (eAtrue G s v).mem, (eAtrue G s v).orc⟩, [accOk (bytesI s) = false]) := by kernel_rfl
theorem resAtrue {G : Glob} (s : ByteArray) (v : Int) : eRes tys (eAtrue G s v).tm (fun k => (eAtrue G s v).mem[k]?) fn.results.toList = some [.a (.v (.slice none 0 0)), .a (.v (.int .i64 1))] := by kernel_rfl
noncomputable def eBtrue (G : Glob) (s : ByteArray) (v : Int) : St := outS (Γ (G := G)) tys 200 body ⟨startT fn [.o (.a (.v (.string s))), .o (.a (.v (.int .u64 v))), .o (.a (.v (.bool true)))], [], [(10, [.b true]), (14, [.b true])]⟩
theorem exBtrue {G : Glob} (s : ByteArray) (v : Int) : exec (Γ (G := G)) tys 200 body ⟨startT fn [.o (.a (.v (.string s))), .o (.a (.v (.int .u64 v))), .o (.a (.v (.bool true)))], [], [(10, [.b true]), (14, [.b true])]⟩ = some (.ret, ⟨(eBtrue G s v).tm, (eBtrue G s v).mem, (eBtrue G s v).orc⟩, [accOk (bytesI s) = true, (v == 0) = true]) := by kernel_rfl
theorem resBtrue {G : Glob} (s : ByteArray) (v : Int) : eRes tys (eBtrue G s v).tm (fun k => (eBtrue G s v).mem[k]?) fn.results.toList = some [.a (.v (.slice none 0 0)), .a (.v (.int .i64 1))] := by kernel_rfl
noncomputable def efalse (G : Glob) (s : ByteArray) (v : Int) : St := outS (Γ (G := G)) tys 200 body ⟨startT fn [.o (.a (.v (.string s))), .o (.a (.v (.int .u64 v))), .o (.a (.v (.bool false)))], [], [(10, [.b true]), (14, [.b false])]⟩
theorem exfalse {G : Glob} (s : ByteArray) (v : Int) : exec (Γ (G := G)) tys 200 body ⟨startT fn [.o (.a (.v (.string s))), .o (.a (.v (.int .u64 v))), .o (.a (.v (.bool false)))], [], [(10, [.b true]), (14, [.b false])]⟩ = some (.ret, ⟨(efalse G s v).tm, (efalse G s v).mem, (efalse G s v).orc⟩, [accOk (bytesI s) = true, (v == 0) = false, 0 + 5 ≤ 5, 0 + s.size ≤ (bytesI s).length, 0 + 8 ≤ ((b4 (numH v) ++ b4 (numL v))).length, 0 + 1 ≤ 1, encT (inpR s (b4 (numH v) ++ b4 (numL v)) 0) ≤ 1048576]) := by kernel_rfl
theorem resfalse {G : Glob} (s : ByteArray) (v : Int) : eRes tys (efalse G s v).tm (fun k => (efalse G s v).mem[k]?) fn.results.toList = some [.a (.sld 5 0 0 (encT (inpR s (b4 (numH v) ++ b4 (numL v)) 0)) (encT (inpR s (b4 (numH v) ++ b4 (numL v)) 0))), .a (.v (.int .i64 0))] := by kernel_rfl
theorem rowfalse {G : Glob} (s : ByteArray) (v : Int) : (efalse G s v).mem[5]? = some ⟨true, 5, .run .u8 (encB (inpR s (b4 (numH v) ++ b4 (numL v)) 0))⟩ := by kernel_rfl
noncomputable def eAfalse (G : Glob) (s : ByteArray) (v : Int) : St := outS (Γ (G := G)) tys 200 body ⟨startT fn [.o (.a (.v (.string s))), .o (.a (.v (.int .u64 v))), .o (.a (.v (.bool false)))], [], [(10, [.b false])]⟩
theorem exAfalse {G : Glob} (s : ByteArray) (v : Int) : exec (Γ (G := G)) tys 200 body ⟨startT fn [.o (.a (.v (.string s))), .o (.a (.v (.int .u64 v))), .o (.a (.v (.bool false)))], [], [(10, [.b false])]⟩ = some (.ret, ⟨(eAfalse G s v).tm, (eAfalse G s v).mem, (eAfalse G s v).orc⟩, [accOk (bytesI s) = false]) := by kernel_rfl
theorem resAfalse {G : Glob} (s : ByteArray) (v : Int) : eRes tys (eAfalse G s v).tm (fun k => (eAfalse G s v).mem[k]?) fn.results.toList = some [.a (.v (.slice none 0 0)), .a (.v (.int .i64 1))] := by kernel_rfl
noncomputable def eBfalse (G : Glob) (s : ByteArray) (v : Int) : St := outS (Γ (G := G)) tys 200 body ⟨startT fn [.o (.a (.v (.string s))), .o (.a (.v (.int .u64 v))), .o (.a (.v (.bool false)))], [], [(10, [.b true]), (14, [.b true])]⟩
theorem exBfalse {G : Glob} (s : ByteArray) (v : Int) : exec (Γ (G := G)) tys 200 body ⟨startT fn [.o (.a (.v (.string s))), .o (.a (.v (.int .u64 v))), .o (.a (.v (.bool false)))], [], [(10, [.b true]), (14, [.b true])]⟩ = some (.ret, ⟨(eBfalse G s v).tm, (eBfalse G s v).mem, (eBfalse G s v).orc⟩, [accOk (bytesI s) = true, (v == 0) = true]) := by kernel_rfl
theorem resBfalse {G : Glob} (s : ByteArray) (v : Int) : eRes tys (eBfalse G s v).tm (fun k => (eBfalse G s v).mem[k]?) fn.results.toList = some [.a (.v (.slice none 0 0)), .a (.v (.int .i64 1))] := by kernel_rfl
theorem run {G : Glob} (s : ByteArray) (v : Int) (b : Bool) (hs : s.size ≤ 9223372036854775807) (ha : accOk (bytesI s) = true) (h0 : v ≠ 0) (hv : U64 v) :
    RunsF Tryd.prog G 0 body (startT fn [.o (.a (.v (.string s))), .o (.a (.v (.int .u64 v))), .o (.a (.v (.bool b)))]) [] (EndsM tys fn (endsQ (encRes (inpL (bytesI s) v b)) (.new 5 (.run .u8 (encB (inpL (bytesI s) v b)))))) := by
  have hw : (b4 (numH v) ++ b4 (numL v)) = num8 v := num8_eq hv.1 hv.2
  have hb : (v == 0) = false := by simpa using h0
  have hl : ∀ m, inpR s (b4 (numH v) ++ b4 (numL v)) m = [lab, bytesI s, num8 v, [m]] := fun m => by rw [hw]; exact inpR_eq s _ m rfl
  have h8 : 0 + 8 ≤ ((b4 (numH v) ++ b4 (numL v))).length := by rw [hw]; show 0 + 8 ≤ 8; omega
  cases b with
  | true =>
    have e : inpR s (b4 (numH v) ++ b4 (numL v)) 1 = inpL (bytesI s) v true := hl 1
    refine Runs.of_exec tys_ok mixed (extrue s v) ⟨ha, hb, by decide, by rw [bytesI_length]; omega, h8, by decide, by rw [e]; exact inpT ha, trivial⟩ (EndsM.ret (restrue s v) ⟨5, ?_, ?_⟩)
    · rw [e]; rfl
    · rw [rowtrue, e]
  | false =>
    have e : inpR s (b4 (numH v) ++ b4 (numL v)) 0 = inpL (bytesI s) v false := hl 0
    refine Runs.of_exec tys_ok mixed (exfalse s v) ⟨ha, hb, by decide, by rw [bytesI_length]; omega, h8, by decide, by rw [e]; exact inpT ha, trivial⟩ (EndsM.ret (resfalse s v) ⟨5, ?_, ?_⟩)
    · rw [e]; rfl
    · rw [rowfalse, e]
theorem runBad {G : Glob} (s : ByteArray) (v : Int) (b : Bool) (hs : s.size ≤ 9223372036854775807) (ha : accOk (bytesI s) = false ∨ v = 0) :
    RunsF Tryd.prog G 0 body (startT fn [.o (.a (.v (.string s))), .o (.a (.v (.int .u64 v))), .o (.a (.v (.bool b)))]) [] (EndsM tys fn (endsQ badRes .none)) := by
  cases hA : accOk (bytesI s) with
  | false => cases b with
    | true => exact Runs.of_exec tys_ok mixed (exAtrue s v) ⟨hA, trivial⟩ (EndsM.ret (resAtrue s v) rfl)
    | false => exact Runs.of_exec tys_ok mixed (exAfalse s v) ⟨hA, trivial⟩ (EndsM.ret (resAfalse s v) rfl)
  | true =>
    have h0 : v = 0 := by
      rcases ha with h | h
      · rw [hA] at h; cases h
      · exact h
    have hb : (v == 0) = true := by simpa using h0
    cases b with
    | true => exact Runs.of_exec tys_ok mixed (exBtrue s v) ⟨hA, hb, trivial⟩ (EndsM.ret (resBtrue s v) rfl)
    | false => exact Runs.of_exec tys_ok mixed (exBfalse s v) ⟨hA, hb, trivial⟩ (EndsM.ret (resBfalse s v) rfl)
def spec : List PArg → Option (SV × LEff × Cst)
  | [.val (.o (.a (.v (.string s)))), .val (.o (.a (.v (.int .u64 v)))), .val (.o (.a (.v (.bool b))))] => some (encRes (inpL (bytesI s) v b), .new 5 (.run .u8 (encB (inpL (bytesI s) v b))), [s.size ≤ 9223372036854775807, accOk (bytesI s) = true, v ≠ 0, U64 v])
  | _ => none
def badSpec : List PArg → Option (SV × LEff × Cst)
  | [.val (.o (.a (.v (.string s)))), .val (.o (.a (.v (.int .u64 v)))), .val (.o (.a (.v (.bool b))))] => some (badRes, .none, [s.size ≤ 9223372036854775807, accOk (bytesI s) = false ∨ v = 0])
  | _ => none
noncomputable def con {G : Glob} : Con Tryd.prog G := Con.parts tys_ok 13 fn Tryd.func13 (by kernel_rfl) (c := body) (by kernel_rfl) [.val, .val, .val] spec
  (fun ps r e p h hp => by
    unfold spec at h
    split at h <;> cases h
    exact ⟨rfl, fun b hb => by cases hb⟩)
  (fun ps r e p cap h hp hi => by
    unfold spec at h
    split at h <;> cases h
    exact run _ _ _ hp.1 hp.2.1 hp.2.2.1 hp.2.2.2.1)
noncomputable def bad {G : Glob} : Con Tryd.prog G := Con.parts tys_ok 13 fn Tryd.func13 (by kernel_rfl) (c := body) (by kernel_rfl) [.val, .val, .val] badSpec
  (fun ps r e p h hp => by
    unfold badSpec at h
    split at h <;> cases h
    exact ⟨rfl, fun b hb => by cases hb⟩)
  (fun ps r e p cap h hp hi => by
    unfold badSpec at h
    split at h <;> cases h
    exact runBad _ _ _ hp.1 hp.2.1)
end inp
end Go.Proofs.YtbfndladaldajaaDoor
/- The law of a label's input: no two inputs are one; walked; its content. -/
namespace Go.Proofs.YtbfndladaldajaaDoor
open Go Go.Eng Go.RowKit
set_option linter.unusedVariables false
set_option linter.unusedSimpArgs false
set_option maxRecDepth 100000
namespace awk
noncomputable abbrev fn := Tryd.f5
noncomputable def body : Code := bodyOf fn
def sa : ByteArray := ⟨#[97]⟩
def sA : ByteArray := ⟨#[65]⟩
def MA : List (Option SV) := maskL 24 0 [(1, .o (.a (.sld 0 0 0 35 35))), (2, .o (.a (.v (.int .i64 0))))]
def mA : List Blk := [⟨true, 5, .run .u8 (encB (inpL (bytesI sa) 1 true))⟩]
theorem idsA : idsIn mA.length MA mA = true := by kernel_rfl
theorem s1 {G : Glob} : outX mA.length MA (exec ([inp.con] : Cons Tryd.prog G) tys 200 (cpre 2 body) ⟨startT fn [], [], []⟩) = some (.normal, live MA, MA.length, mA, [sa.size ≤ 9223372036854775807, accOk (bytesI sa) = true, (1 : Int) ≠ 0, U64 1]) := by kernel_rfl
noncomputable def e (G : Glob) (g : Nat → SV) : St := outS ([inp.bad] : Cons Tryd.prog G) tys 200 (csuf 2 body) ⟨fill g 0 MA, mA, []⟩
theorem ex {G : Glob} (g : Nat → SV) : exec ([inp.bad] : Cons Tryd.prog G) tys 200 (csuf 2 body) ⟨fill g 0 MA, mA, []⟩ = some (.ret, ⟨(e G g).tm, (e G g).mem, []⟩, [sA.size ≤ 9223372036854775807, accOk (bytesI sA) = false ∨ (1 : Int) = 0]) := by kernel_rfl
theorem res {G : Glob} (g : Nat → SV) : eRes tys (e G g).tm (fun k => (e G g).mem[k]?) fn.results.toList = some [.a (bool1 true)] := by kernel_rfl
theorem run {G : Glob} : RunsF Tryd.prog G 0 body (startT fn []) [] (EndsM tys fn (endsQ (cBool.enc true) .none)) := by
  refine Runs.of_outXP tys_ok mixed 2 s1 ⟨by decide, by kernel_rfl, by decide, ⟨by decide, by decide⟩, trivial⟩ idsA rfl fun g => ?_
  exact Runs.of_exec tys_ok mixed (ex g) ⟨by decide, .inl (by kernel_rfl), trivial⟩ (EndsM.ret (res g) rfl)
def spec : List PArg → Option (SV × LEff × Cst)
  | [] => some (.o (.a (bool1 true)), .none, [])
  | _ => none
noncomputable def con {G : Glob} : Con Tryd.prog G := Con.parts tys_ok 5 fn Tryd.func5 (by kernel_rfl) (c := body) (by kernel_rfl) [] spec
  (fun ps r e p h hp => by
    unfold spec at h
    split at h <;> cases h
    exact ⟨rfl, fun b hb => by cases hb⟩)
  (fun ps r e p cap h hp hi => by
    unfold spec at h
    split at h <;> cases h
    exact run)
end awk
end Go.Proofs.YtbfndladaldajaaDoor

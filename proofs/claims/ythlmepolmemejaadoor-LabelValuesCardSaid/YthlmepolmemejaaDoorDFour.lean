/- Packages wire and beaconref07: a number's bytes: walks, contracts. -/
import Derived.Test.YthlmepolmemejaaDoorDEngZ
import Derived.Test.YthlmepolmemejaaDoorDTy
import Derived.Test.YthlmepolmemejaaDoorDCod2
namespace Go.Proofs.YthlmepolmemejaaDoor
open Go Go.Eng Go.RowKit
set_option linter.unusedVariables false
set_option linter.unusedSimpArgs false
set_option maxRecDepth 100000
theorem room8 (n : Nat) (h : n ≤ 140737488355328) : Room Tryd.prog 5 n := by
  have h1 : (Tryd.prog.info? 5).map (·.bytes) = some 1 := by kernel_rfl
  cases hq : Tryd.prog.info? 5 with
  | none => rw [hq] at h1; cases h1
  | some j =>
    rw [hq] at h1
    have : j.bytes = 1 := by simpa using h1
    exact ⟨j, hq, by rw [this]; omega, by omega⟩
theorem wu8 (n : Int) : IntKind.u8.wrap n = n % 256 := by
  rw [IntKind.wrap_u8]
theorem wi64 (n : Int) (h0 : -9223372036854775808 ≤ n) (h1 : n < 9223372036854775808) : IntKind.i64.wrap n = n := by rw [IntKind.wrap_i64]; omega
theorem wu32 (n : Int) : IntKind.u32.wrap n = n % 4294967296 := by
  rw [IntKind.wrap_u32]
def b4 (v : Int) : List Int := [IntKind.u8.wrap (v.fdiv 16777216), IntKind.u8.wrap (v.fdiv 65536), IntKind.u8.wrap (v.fdiv 256), IntKind.u8.wrap v]
theorem b4_len (v : Int) : (b4 v).length = 4 := rfl
namespace rfour
variable {G : Glob}
noncomputable abbrev fn := Tryd.f31
noncomputable def body : Code := bodyOf fn
noncomputable def e (G : Glob) (v : Int) : St := outS ([] : Cons Tryd.prog G) tys 100 body ⟨startT fn [.o (.a (.v (.int .i64 v)))], [], []⟩
theorem ex (v : Int) : exec ([] : Cons Tryd.prog G) tys 100 body ⟨startT fn [.o (.a (.v (.int .i64 v)))], [], []⟩ = some (.ret, ⟨(e G v).tm, (e G v).mem, []⟩, []) := by kernel_rfl
theorem res (v : Int) : eRes tys (e G v).tm (fun k => (e G v).mem[k]?) fn.results.toList = some [.a (.slc 0 0 4 4)] := by kernel_rfl
theorem row (v : Int) : (e G v).mem[0]? = some ⟨true, 5, .lit ((b4 v).map (int1 .u8))⟩ := by kernel_rfl
def spec : List PArg → Option (SV × LEff × Cst)
  | [.val (.o (.a (.v (.int .i64 v))))] => some (.o (.a (.slc 0 0 4 4)), .new 5 (.lit ((b4 v).map (int1 .u8))), [])
  | _ => none
end rfour
noncomputable def rfour_con {G : Glob} : Con Tryd.prog G := Con.parts tys_ok 31 rfour.fn Tryd.func31 (by kernel_rfl) (c := rfour.body) (by kernel_rfl) [.val] rfour.spec
  (fun ps r e p h hp => by
    unfold rfour.spec at h
    split at h <;> cases h
    exact ⟨rfl, fun b hb => by cases hb⟩)
  (fun ps r e p cap h hp hi => by
    unfold rfour.spec at h
    split at h <;> cases h
    exact Runs.of_exec tys_ok mixed (rfour.ex _) trivial (EndsM.ret (rfour.res _) ⟨0, rfl, rfour.row _⟩))
namespace four
variable {G : Glob}
noncomputable abbrev fn := Tryd.f30
noncomputable def body : Code := bodyOf fn
abbrev iv (v : Int) : SV := .o (.a (.v (.int .i64 v)))
-- of nothing
abbrev nilV : SV := .o (.a (.v (.slice none 0 0)))
noncomputable def ne (G : Glob) (v : Int) : St := outS ([] : Cons Tryd.prog G) tys 100 body ⟨startT fn [nilV, iv v], [], []⟩
theorem nex (v : Int) : exec ([] : Cons Tryd.prog G) tys 100 body ⟨startT fn [nilV, iv v], [], []⟩ = some (.ret, ⟨(ne G v).tm, (ne G v).mem, []⟩, [0 + 4 ≤ 4, 1 ≤ 4, Room Tryd.prog 5 4]) := by kernel_rfl
theorem nres (v : Int) : eRes tys (ne G v).tm (fun k => (ne G v).mem[k]?) fn.results.toList = some [.a (.slg 1 4)] := by kernel_rfl
theorem nrow (v : Int) : (ne G v).mem[1]? = some ⟨true, 5, .gro .u8 (b4 v) 4 none⟩ := by kernel_rfl
def nspec : List PArg → Option (SV × LEff × Cst)
  | [.val (.o (.a (.v (.slice none 0 0)))), .val (.o (.a (.v (.int .i64 v))))] => some (.o (.a (.slg 0 4)), .new 5 (.gro .u8 (b4 v) 4 none), [])
  | _ => none
-- in place
noncomputable def is (xs : List Int) (ty : TypeId) (n lo : Nat) (v : Int) : St := ⟨startT fn [.o (.a (.slg 0 n)), iv v], [⟨true, ty, .gro .u8 xs lo none⟩], []⟩
noncomputable def ie (G : Glob) (xs : List Int) (ty : TypeId) (n lo : Nat) (v : Int) : St := outS ([] : Cons Tryd.prog G) tys 100 body (is xs ty n lo v)
theorem iex (xs : List Int) (ty : TypeId) (n lo : Nat) (v : Int) : exec ([] : Cons Tryd.prog G) tys 100 body (is xs ty n lo v) = some (.ret, ⟨(ie G xs ty n lo v).tm, (ie G xs ty n lo v).mem, []⟩, [0 + 4 ≤ 4, n = xs.length, n + 4 ≤ lo]) := by kernel_rfl
theorem ires (xs : List Int) (ty : TypeId) (n lo : Nat) (v : Int) : eRes tys (ie G xs ty n lo v).tm (fun k => (ie G xs ty n lo v).mem[k]?) fn.results.toList = some [.a (.slg 0 (n + 4))] := by kernel_rfl
theorem irow (xs : List Int) (ty : TypeId) (n lo : Nat) (v : Int) : (ie G xs ty n lo v).mem[0]? = some ⟨true, ty, .gro .u8 (xs ++ b4 v) lo none⟩ := by kernel_rfl
-- beside
noncomputable def gs (xs : List Int) (ty : TypeId) (n lo h : Nat) (v : Int) : St := ⟨startT fn [.o (.a (.slg 0 n)), iv v], [⟨false, ty, .gro .u8 xs lo (some h)⟩], []⟩
noncomputable def ge (G : Glob) (xs : List Int) (ty : TypeId) (n lo h : Nat) (v : Int) : St := outS ([] : Cons Tryd.prog G) tys 100 body (gs xs ty n lo h v)
theorem gex (xs : List Int) (ty : TypeId) (n lo h : Nat) (v : Int) : exec ([] : Cons Tryd.prog G) tys 100 body (gs xs ty n lo h v) = some (.ret, ⟨(ge G xs ty n lo h v).tm, (ge G xs ty n lo h v).mem, []⟩, [0 + 4 ≤ 4, n = xs.length, h ≤ n + 4, Room Tryd.prog 5 (n + 4)]) := by kernel_rfl
theorem gres (xs : List Int) (ty : TypeId) (n lo h : Nat) (v : Int) : eRes tys (ge G xs ty n lo h v).tm (fun k => (ge G xs ty n lo h v).mem[k]?) fn.results.toList = some [.a (.slg 2 (n + 4))] := by kernel_rfl
theorem grow (xs : List Int) (ty : TypeId) (n lo h : Nat) (v : Int) : (ge G xs ty n lo h v).mem[2]? = some ⟨true, 5, .gro .u8 (xs ++ b4 v) (n + 4) none⟩ := by kernel_rfl
-- in a buffer
noncomputable def bs (xs : List Int) (ty : TypeId) (o n c : Nat) (v : Int) : St := ⟨startT fn [.o (.a (.sld 0 0 o n c)), iv v], [⟨true, ty, .run .u8 xs⟩], []⟩
noncomputable def be (G : Glob) (xs : List Int) (ty : TypeId) (o n c : Nat) (v : Int) : St := outS ([] : Cons Tryd.prog G) tys 100 body (bs xs ty o n c v)
theorem bex (xs : List Int) (ty : TypeId) (o n c : Nat) (v : Int) : exec ([] : Cons Tryd.prog G) tys 100 body (bs xs ty o n c v) = some (.ret, ⟨(be G xs ty o n c v).tm, (be G xs ty o n c v).mem, []⟩, [0 + 4 ≤ 4, n + 4 ≤ c, o + n + 4 ≤ xs.length]) := by kernel_rfl
theorem bres (xs : List Int) (ty : TypeId) (o n c : Nat) (v : Int) : eRes tys (be G xs ty o n c v).tm (fun k => (be G xs ty o n c v).mem[k]?) fn.results.toList = some [.a (.sld 0 0 o (n + 4) c)] := by kernel_rfl
theorem brow (xs : List Int) (ty : TypeId) (o n c : Nat) (v : Int) : (be G xs ty o n c v).mem[0]? = some ⟨true, ty, .run .u8 (putI (o + n) (b4 v) 0 xs)⟩ := by kernel_rfl
def bspec : List PArg → Option (SV × LEff × Cst)
  | [.buf .u8 ty xs l o n c, .val (.o (.a (.v (.int .i64 v))))] => some (.o (.a (.sld 0 0 o (n + 4) c)), .upd ty (.run .u8 (putI (o + n) (b4 v) 0 xs)), [n + 4 ≤ c, o + n + 4 ≤ xs.length])
  | _ => none
noncomputable def nilC {G : Glob} : Con Tryd.prog G := Con.parts tys_ok 30 fn Tryd.func30 (by kernel_rfl) (c := body) (by kernel_rfl) [.val, .val] nspec
  (fun ps r e p h hp => by
    unfold nspec at h
    split at h <;> cases h
    exact ⟨rfl, fun b hb => by cases hb⟩)
  (fun ps r e p cap h hp hi => by
    unfold nspec at h
    split at h <;> cases h
    exact Runs.of_exec tys_ok mixed (nex _) ⟨by omega, by omega, room8 _ (by omega), trivial⟩ (EndsM.ret (nres _) ⟨1, rfl, nrow _⟩))
theorem nil_fr {G : Glob} : ∀ m fr fr' args, (nilC (G := G)).spec m fr args = none → (nilC (G := G)).spec m fr' args = none := fun _ _ _ _ h => Con.parts_fr _ _ _ _ _ _ _ _ _ _ _ _ _ _ h
noncomputable def bufC {G : Glob} : Con Tryd.prog G := Con.parts tys_ok 30 fn Tryd.func30 (by kernel_rfl) (c := body) (by kernel_rfl) [.buf .u8, .val] bspec
  (fun ps r e p h hp => by
    unfold bspec at h
    split at h <;> cases h
    exact ⟨(fun k hk => by simpa [SV.ids, SV1.ids, Atom.ids] using hk), rfl, ⟨_, rfl, rfl, rfl⟩, (fun i b h => by simp [locBlks, PArg.blk] at h), fun kd ty xs o n c rest h => by cases h; exact ⟨_, rfl, putI_length _ _ _ _⟩⟩)
  (fun ps r e p cap h hp hi => by
    unfold bspec at h
    split at h <;> cases h
    exact Runs.of_exec tys_ok mixed (bex _ _ _ _ _ _) ⟨by omega, hp.1, hp.2.1, trivial⟩ (EndsM.ret (bres _ _ _ _ _ _) ⟨rfl, brow _ _ _ _ _ _⟩))
theorem buf_fr {G : Glob} : ∀ m fr fr' args, (bufC (G := G)).spec m fr args = none → (bufC (G := G)).spec m fr' args = none := fun _ _ _ _ h => Con.parts_fr _ _ _ _ _ _ _ _ _ _ _ _ _ _ h
def inD : Dec Tryd.prog GroA := Dec.gro Tryd.prog .u8 true (fun x => .o (.a (.slg 0 (x.n + 4)))) (fun x => .upd x.ty (.gro .u8 (x.xs ++ b4 x.v) x.lo none)) (fun x => [x.k = .i64, x.n = x.xs.length, x.n + 4 ≤ x.lo])
  (fun x => ⟨rfl, rfl, rfl, fun k hk => by simpa [SV.ids, SV1.ids, Atom.ids] using hk⟩)
noncomputable def groC {G : Glob} : Con Tryd.prog G := Con.hand tys_ok 30 fn Tryd.func30 (by kernel_rfl) (c := body) (by kernel_rfl) inD
  (fun x hc hi => by
    obtain ⟨xs, n, lo, hi', ty, k, v⟩ := x
    obtain ⟨h1, h2, h3, _⟩ := hc
    have hi : hi'.isNone = true := hi
    cases hi' with
    | some h => cases hi
    | none =>
      cases h1
      exact Runs.of_exec tys_ok mixed (iex xs ty n lo v) ⟨by omega, h2, h3, trivial⟩ (EndsM.ret (ires xs ty n lo v) ⟨rfl, irow xs ty n lo v⟩))
theorem gro_fr {G : Glob} : ∀ m fr fr' args, (groC (G := G)).spec m fr args = none → (groC (G := G)).spec m fr' args = none := fun _ _ _ _ h => Con.hand_fr _ _ _ _ _ _ _ _ _ _ _ _ h
def bsD : Dec Tryd.prog GroA := Dec.gro Tryd.prog .u8 false (fun x => .o (.a (.slg 0 (x.n + 4)))) (fun x => .new 5 (.gro .u8 (x.xs ++ b4 x.v) (x.n + 4) none)) (fun x => [x.k = .i64, x.n = x.xs.length, ∀ h, x.hi = some h → h ≤ x.n + 4, x.n + 4 ≤ 140737488355328])
  (fun x => ⟨rfl, rfl⟩)
noncomputable def bsC {G : Glob} : Con Tryd.prog G := Con.hand tys_ok 30 fn Tryd.func30 (by kernel_rfl) (c := body) (by kernel_rfl) bsD
  (fun x hc hi => by
    obtain ⟨xs, n, lo, hi', ty, k, v⟩ := x
    obtain ⟨h1, h2, h3, h4, _⟩ := hc
    have hi : hi'.isNone = false := hi
    cases hi' with
    | none => cases hi
    | some h =>
      cases h1
      exact Runs.of_exec tys_ok mixed (gex xs ty n lo h v) ⟨by omega, h2, h3 h rfl, room8 _ h4, trivial⟩ (EndsM.ret (gres xs ty n lo h v) ⟨2, rfl, grow xs ty n lo h v⟩))
end four
noncomputable def four_con {G : Glob} : Con Tryd.prog G := Con.or four.nilC (Con.or four.bufC (Con.or four.groC four.bsC rfl four.gro_fr) rfl four.buf_fr) rfl four.nil_fr
end Go.Proofs.YthlmepolmemejaaDoor

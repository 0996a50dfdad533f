/- Package sha2: appended and New walked, with their contracts. -/
import Derived.Test.YtpmdelihcdaffaaDoorShaE
namespace Go.Proofs.YtpmdelihcdaffaaDoor
open Go Go.Eng
set_option linter.unusedVariables false
set_option maxRecDepth 100000

/-! ### appended -/
def byteAt (v : Int) (s : Nat) : Int := IntKind.u8.wrap (v.fdiv (2 ^ s))
def appR (v : Int) (o : Nat) : List Int → Nat → List Nat → List Int
  | xs, _, [] => xs
  | xs, n, s :: r => appR v o (putI (o + n) [byteAt v s] 0 xs) (n + 1) r
def appC (v : Int) (o c : Nat) : List Int → Nat → List Nat → Cst
  | _, _, [] => []
  | xs, n, s :: r => (0 + 1 ≤ [byteAt v s].length) :: (n + 1 ≤ c) :: (o + n + 1 ≤ xs.length) :: appC v o c (putI (o + n) [byteAt v s] 0 xs) (n + 1) r
theorem appR_length (v : Int) (o : Nat) : ∀ (l : List Nat) (xs : List Int) (n : Nat), (appR v o xs n l).length = xs.length
  | [], _, _ => rfl
  | s :: r, xs, n => by rw [appR, appR_length v o r, putI_length]
theorem appC_holds (v : Int) (o c : Nat) : ∀ (l : List Nat) (xs : List Int) (n : Nat), n + l.length ≤ c → o + n + l.length ≤ xs.length → Holds (appC v o c xs n l)
  | [], _, _, _, _ => trivial
  | s :: r, xs, n, h1, h2 => by
    simp only [List.length_cons] at h1 h2
    exact ⟨by simp, by omega, by omega, appC_holds v o c r _ _ (by omega) (by rw [putI_length]; omega)⟩
theorem putI_nil (o : Nat) (xs : List Int) : putI o [] 0 xs = xs := by
  apply List.ext_getElem?
  intro j
  rw [putI_get, Nat.zero_add]
  have : (Nat.ble o j && Nat.blt (j - o) ([] : List Int).length) = false := by
    rw [Bool.eq_false_iff]
    intro hc
    rw [Bool.and_eq_true] at hc
    have := Nat.le_of_ble_eq_true hc.2
    simp at this
  rw [this]
  cases xs[j]? <;> rfl
theorem putI_two (o : Nat) (a b xs : List Int) (h : o + (a.length + b.length) ≤ xs.length) : putI (o + a.length) b 0 (putI o a 0 xs) = putI o (a ++ b) 0 xs := by
  rw [putI_spec (o + a.length) b _ (by rw [putI_length]; omega), putI_spec o a xs (by omega), putI_spec o (a ++ b) xs (by rw [List.length_append]; omega)]
  have hY : (xs.take o ++ a).length = o + a.length := by rw [List.length_append, List.length_take]; omega
  have e : xs.take o ++ (a ++ xs.drop (o + a.length)) = (xs.take o ++ a) ++ xs.drop (o + a.length) := (List.append_assoc _ _ _).symm
  rw [e, List.take_left' hY, ← List.drop_drop, List.drop_left' hY, List.drop_drop, List.length_append]
  simp only [List.append_assoc, Nat.add_assoc]
theorem appR_put (v : Int) (o : Nat) : ∀ (l : List Nat) (xs : List Int) (n : Nat), o + n + l.length ≤ xs.length → appR v o xs n l = putI (o + n) (l.map (byteAt v)) 0 xs
  | [], xs, n, _ => by rw [List.map_nil, putI_nil]; rfl
  | s :: r, xs, n, h => by
    simp only [List.length_cons] at h
    rw [appR, appR_put v o r _ _ (by rw [putI_length]; omega)]
    have := putI_two (o + n) [byteAt v s] (r.map (byteAt v)) xs (by simp only [List.length_singleton, List.length_map]; omega)
    simp only [List.length_singleton] at this
    rw [← Nat.add_assoc, this]
    rfl
namespace app
noncomputable abbrev fn := Tryd.f30
noncomputable def body : Code := bodyOf fn
def sh8 : List Nat := [56, 48, 40, 32, 24, 16, 8, 0]
noncomputable def s8 (xs : List Int) (ty : TypeId) (o n c : Nat) (v : Int) : St := ⟨startT fn [.o (.a (.sld 0 0 o n c)), (cInt .u64).enc v, (cInt .i64).enc 8], [⟨true, ty, .run .u8 xs⟩], []⟩
noncomputable def e8 (xs : List Int) (ty : TypeId) (o n c : Nat) (v : Int) : St := outS ([] : Cons Tryd.prog Gs) tys 100 body (s8 xs ty o n c v)
theorem ex8 (xs : List Int) (ty : TypeId) (o n c : Nat) (v : Int) : exec ([] : Cons Tryd.prog Gs) tys 100 body (s8 xs ty o n c v) = some (.ret, ⟨(e8 xs ty o n c v).tm, (e8 xs ty o n c v).mem, []⟩, appC v o c xs n sh8) := by kernel_rfl
theorem res8 (xs : List Int) (ty : TypeId) (o n c : Nat) (v : Int) : eRes tys (e8 xs ty o n c v).tm (fun k => (e8 xs ty o n c v).mem[k]?) fn.results.toList = some [.a (.sld 0 0 o (n + 8) c)] := by kernel_rfl
theorem row8 (xs : List Int) (ty : TypeId) (o n c : Nat) (v : Int) : (e8 xs ty o n c v).mem[0]? = some ⟨true, ty, .run .u8 (appR v o xs n sh8)⟩ := by kernel_rfl
theorem run8 (xs : List Int) (ty : TypeId) (o n c : Nat) (v : Int) (h1 : n + 8 ≤ c) (h2 : o + n + 8 ≤ xs.length) :
    RunsF Tryd.prog Gs 1 body (startT fn [.o (.a (.sld 0 0 o n c)), (cInt .u64).enc v, (cInt .i64).enc 8]) [⟨true, ty, .run .u8 xs⟩] (EndsM tys fn (endsQ (.o (.a (.sld 0 0 o (n + 8) c))) (.upd ty (.run .u8 (putI (o + n) (sh8.map (byteAt v)) 0 xs))))) := by
  rw [← appR_put v o sh8 xs n h2]
  exact Runs.of_exec tys_ok mixed (ex8 xs ty o n c v) (appC_holds v o c sh8 xs n h1 h2) (EndsM.ret (res8 xs ty o n c v) ⟨rfl, row8 xs ty o n c v⟩)
def sh4 : List Nat := [24, 16, 8, 0]
noncomputable def s4 (xs : List Int) (ty : TypeId) (o n c : Nat) (v : Int) : St := ⟨startT fn [.o (.a (.sld 0 0 o n c)), (cInt .u64).enc v, (cInt .i64).enc 4], [⟨true, ty, .run .u8 xs⟩], []⟩
noncomputable def e4 (xs : List Int) (ty : TypeId) (o n c : Nat) (v : Int) : St := outS ([] : Cons Tryd.prog Gs) tys 100 body (s4 xs ty o n c v)
theorem ex4 (xs : List Int) (ty : TypeId) (o n c : Nat) (v : Int) : exec ([] : Cons Tryd.prog Gs) tys 100 body (s4 xs ty o n c v) = some (.ret, ⟨(e4 xs ty o n c v).tm, (e4 xs ty o n c v).mem, []⟩, appC v o c xs n sh4) := by kernel_rfl
theorem res4 (xs : List Int) (ty : TypeId) (o n c : Nat) (v : Int) : eRes tys (e4 xs ty o n c v).tm (fun k => (e4 xs ty o n c v).mem[k]?) fn.results.toList = some [.a (.sld 0 0 o (n + 4) c)] := by kernel_rfl
theorem row4 (xs : List Int) (ty : TypeId) (o n c : Nat) (v : Int) : (e4 xs ty o n c v).mem[0]? = some ⟨true, ty, .run .u8 (appR v o xs n sh4)⟩ := by kernel_rfl
theorem run4 (xs : List Int) (ty : TypeId) (o n c : Nat) (v : Int) (h1 : n + 4 ≤ c) (h2 : o + n + 4 ≤ xs.length) :
    RunsF Tryd.prog Gs 1 body (startT fn [.o (.a (.sld 0 0 o n c)), (cInt .u64).enc v, (cInt .i64).enc 4]) [⟨true, ty, .run .u8 xs⟩] (EndsM tys fn (endsQ (.o (.a (.sld 0 0 o (n + 4) c))) (.upd ty (.run .u8 (putI (o + n) (sh4.map (byteAt v)) 0 xs))))) := by
  rw [← appR_put v o sh4 xs n h2]
  exact Runs.of_exec tys_ok mixed (ex4 xs ty o n c v) (appC_holds v o c sh4 xs n h1 h2) (EndsM.ret (res4 xs ty o n c v) ⟨rfl, row4 xs ty o n c v⟩)
end app
/-- The bytes that appended lays behind a slice. -/
def beB (k : Int) (v : Int) : List Int := if k = 8 then app.sh8.map (byteAt v) else app.sh4.map (byteAt v)
def app_spec : List PArg → Option (SV × LEff × Cst)
  | [.buf .u8 ty xs l o n c, .val (.o (.a (.v (.int .u64 v)))), .val (.o (.a (.v (.int .i64 k))))] =>
    if k = 8 then some (.o (.a (.sld 0 0 o (n + 8) c)), .upd ty (.run .u8 (putI (o + n) (app.sh8.map (byteAt v)) 0 xs)), [n + 8 ≤ c, o + n + 8 ≤ xs.length])
    else if k = 4 then some (.o (.a (.sld 0 0 o (n + 4) c)), .upd ty (.run .u8 (putI (o + n) (app.sh4.map (byteAt v)) 0 xs)), [n + 4 ≤ c, o + n + 4 ≤ xs.length])
    else none
  | _ => none
theorem app_specE {ps : List PArg} {r : SV} {e : LEff} {p : Cst} (h : app_spec ps = some (r, e, p)) : ∃ ty xs l o n c v, (ps = [.buf .u8 ty xs l o n c, .val (.o (.a (.v (.int .u64 v)))), .val (.o (.a (.v (.int .i64 8))))] ∧ r = .o (.a (.sld 0 0 o (n + 8) c)) ∧ e = .upd ty (.run .u8 (putI (o + n) (app.sh8.map (byteAt v)) 0 xs)) ∧ p = [n + 8 ≤ c, o + n + 8 ≤ xs.length]) ∨
    (ps = [.buf .u8 ty xs l o n c, .val (.o (.a (.v (.int .u64 v)))), .val (.o (.a (.v (.int .i64 4))))] ∧ r = .o (.a (.sld 0 0 o (n + 4) c)) ∧ e = .upd ty (.run .u8 (putI (o + n) (app.sh4.map (byteAt v)) 0 xs)) ∧ p = [n + 4 ≤ c, o + n + 4 ≤ xs.length]) := by
  unfold app_spec at h
  split at h <;> try cases h
  rename_i ty xs l o n c v k
  split at h
  · rename_i hk
    subst hk
    cases h
    exact ⟨ty, xs, l, o, n, c, v, .inl ⟨rfl, rfl, rfl, rfl⟩⟩
  · split at h <;> cases h
    rename_i hk
    subst hk
    exact ⟨ty, xs, l, o, n, c, v, .inr ⟨rfl, rfl, rfl, rfl⟩⟩
noncomputable def app_con : Con Tryd.prog Gs := Con.parts tys_ok 30 app.fn Tryd.func30 (by kernel_rfl) (c := app.body) (by kernel_rfl) [.buf .u8, .val, .val] app_spec
  (fun ps r e p h hp => by
    obtain ⟨ty, xs, l, o, n, c, v, h⟩ := app_specE h
    rcases h with ⟨rfl, rfl, rfl, rfl⟩ | ⟨rfl, rfl, rfl, rfl⟩
    · exact ⟨(fun k hk => by simpa [SV.ids, SV1.ids, Atom.ids] using hk), rfl, ⟨_, rfl, rfl, rfl⟩, (fun i b h => by simp [locBlks, PArg.blk] at h), fun kd ty xs o n c rest h => by cases h; exact ⟨_, rfl, putI_length _ _ _ _⟩⟩
    · exact ⟨(fun k hk => by simpa [SV.ids, SV1.ids, Atom.ids] using hk), rfl, ⟨_, rfl, rfl, rfl⟩, (fun i b h => by simp [locBlks, PArg.blk] at h), fun kd ty xs o n c rest h => by cases h; exact ⟨_, rfl, putI_length _ _ _ _⟩⟩)
  (fun ps r e p cap h hp _ => by
    obtain ⟨ty, xs, l, o, n, c, v, h⟩ := app_specE h
    rcases h with ⟨rfl, rfl, rfl, rfl⟩ | ⟨rfl, rfl, rfl, rfl⟩
    · exact app.run8 xs ty o n c v hp.1 hp.2.1
    · exact app.run4 xs ty o n c v hp.1 hp.2.1)

/-! ### New -/
def h0L : E8 := ⟨1779033703, 3144134277, 1013904242, 2773480762, 1359893119, 2600822924, 528734635, 1541459225⟩
def S0 : Hs := ⟨h0L, ⟨0, 0, 0, 0, 0, 0, 0, 0, 0, 0, 0, 0, 0, 0, 0, 0, 0, 0, 0, 0, 0, 0, 0, 0, 0, 0, 0, 0, 0, 0, 0, 0, 0, 0, 0, 0, 0, 0, 0, 0, 0, 0, 0, 0, 0, 0, 0, 0, 0, 0, 0, 0, 0, 0, 0, 0, 0, 0, 0, 0, 0, 0, 0, 0⟩, 0⟩
theorem begin256_fn : FnOk Tryd.prog Gs 28 [] (.o (.g (h0L.to.map (int1 .u32)))) :=
  FnOk.of_out (Γ := ([] : Cons Tryd.prog Gs)) tys_ok mixed Tryd.func28 (n := 100) (orc := []) (cs := []) (by kernel_rfl) trivial rfl rfl
noncomputable def begin256_con : Con Tryd.prog Gs := con0 28 Tryd.f28 Tryd.func28 (by kernel_rfl) (by kernel_rfl) (.o (.g (h0L.to.map (int1 .u32)))) [] rfl (fun _ => begin256_fn)
namespace new
noncomputable abbrev fn := Tryd.f12
noncomputable def body : Code := bodyOf fn
noncomputable def Γ : Cons Tryd.prog Gs := [begin256_con]
noncomputable def e : St := outS Γ tys 100 body ⟨startT fn [], [], []⟩
theorem ex : exec Γ tys 100 body ⟨startT fn [], [], []⟩ = some (.ret, ⟨e.tm, e.mem, []⟩, []) := by kernel_rfl
theorem res : eRes tys e.tm (fun k => e.mem[k]?) fn.results.toList = some [.a (.ptr 0 0)] := by kernel_rfl
theorem row : e.mem[0]? = some ⟨true, 51, hsRow S0⟩ := by kernel_rfl
end new
def new_spec : List PArg → Option (SV × LEff × Cst)
  | [] => some (.o (.a (.ptr 0 0)), .new 51 (hsRow S0), [])
  | _ => none
noncomputable def new_con : Con Tryd.prog Gs := Con.parts tys_ok 12 new.fn Tryd.func12 (by kernel_rfl) (c := new.body) (by kernel_rfl) [] new_spec
  (fun ps r e p h hp => by
    unfold new_spec at h
    split at h <;> cases h
    exact ⟨hsRow_ids _, fun b hb => by cases hb⟩)
  (fun ps r e p cap h hp hi => by
    unfold new_spec at h
    split at h <;> cases h
    exact Runs.of_exec tys_ok mixed new.ex trivial (EndsM.ret new.res ⟨0, rfl, new.row⟩))
end Go.Proofs.YtpmdelihcdaffaaDoor

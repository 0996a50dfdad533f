/- Package sha2: its tables, and words out of bytes. -/
import Derived.Test.YtpmdelihcdaffaaDoorTy
import Derived.Test.YtpmdelihcdaffaaDoorCod2
namespace Go.Proofs.YtpmdelihcdaffaaDoor
open Go Go.Eng
set_option linter.unusedVariables false
set_option maxRecDepth 100000

def k256L : List Int := [1116352408, 1899447441, 3049323471, 3921009573, 961987163, 1508970993, 2453635748, 2870763221, 3624381080, 310598401, 607225278, 1426881987, 1925078388, 2162078206, 2614888103, 3248222580, 3835390401, 4022224774, 264347078, 604807628, 770255983, 1249150122, 1555081692, 1996064986, 2554220882, 2821834349, 2952996808, 3210313671, 3336571891, 3584528711, 113926993, 338241895, 666307205, 773529912, 1294757372, 1396182291, 1695183700, 1986661051, 2177026350, 2456956037, 2730485921, 2820302411, 3259730800, 3345764771, 3516065817, 3600352804, 4094571909, 275423344, 430227734, 506948616, 659060556, 883997877, 958139571, 1322822218, 1537002063, 1747873779, 1955562222, 2024104815, 2227730452, 2361852424, 2428436474, 2756734187, 3204031479, 3329325298]
def k512L : List Int := [4794697086780616226, 8158064640168781261, 13096744586834688815, 16840607885511220156, 4131703408338449720, 6480981068601479193, 10538285296894168987, 12329834152419229976, 15566598209576043074, 1334009975649890238, 2608012711638119052, 6128411473006802146, 8268148722764581231, 9286055187155687089, 11230858885718282805, 13951009754708518548, 16472876342353939154, 17275323862435702243, 1135362057144423861, 2597628984639134821, 3308224258029322869, 5365058923640841347, 6679025012923562964, 8573033837759648693, 10970295158949994411, 12119686244451234320, 12683024718118986047, 13788192230050041572, 14330467153632333762, 15395433587784984357, 489312712824947311, 1452737877330783856, 2861767655752347644, 3322285676063803686, 5560940570517711597, 5996557281743188959, 7280758554555802590, 8532644243296465576, 9350256976987008742, 10552545826968843579, 11727347734174303076, 12113106623233404929, 14000437183269869457, 14369950271660146224, 15101387698204529176, 15463397548674623760, 17586052441742319658, 1182934255886127544, 1847814050463011016, 2177327727835720531, 2830643537854262169, 3796741975233480872, 4115178125766777443, 5681478168544905931, 6601373596472566643, 7507060721942968483, 8399075790359081724, 8693463985226723168, 9568029438360202098, 10144078919501101548, 10430055236837252648, 11840083180663258601, 13761210420658862357, 14299343276471374635, 14566680578165727644, 15097957966210449927, 16922976911328602910, 17689382322260857208, 500013540394364858, 748580250866718886, 1242879168328830382, 1977374033974150939, 2944078676154940804, 3659926193048069267, 4368137639120453308, 4836135668995329356, 5532061633213252278, 6448918945643986474, 6902733635092675308, 7801388544844847127]
/-- The package-level tables. -/
def Gs : Glob := fun g => match g with
  | 0 => some (k256L.map (int1 .u32))
  | _ => none
theorem pair_eta {α β : Type} (x : α × β) : (x.1, x.2) = x := rfl
def tabL {α : Type} (f : Nat → α) : Nat → List α
  | 0 => []
  | n + 1 => f n :: tabL f n
def tabR {α : Type} (f : Nat → α) : Nat → List α
  | 0 => []
  | n + 1 => f n :: tabR f n
theorem tab_get {α : Type} {f g : Nat → α} : ∀ {n : Nat}, tabL f n = tabR g n → ∀ j, j < n → f j = g j
  | 0, _, j, hj => by omega
  | n + 1, h, j, hj => by
    simp only [tabL, tabR, List.cons.injEq] at h
    by_cases hjn : j = n
    · subst hjn; exact h.1
    · exact tab_get h.2 j (by omega)

/-! ### word -/
def wordS (a x : Int) : Int := orU (shlU a 8) (IntKind.u64.wrap x)
def wordG (ys : List Int) : Nat → Int
  | 0 => 0
  | n + 1 => wordS (wordG ys n) (ys.getD n 0)
def wordV (ys : List Int) : Int := wordG ys ys.length
namespace sword
noncomputable abbrev fn := Tryd.f44
noncomputable def body : Code := bodyOf fn
noncomputable def A : Code := cs1 body
noncomputable def B : Code := cs1 (cs2 body)
noncomputable def C : Code := cs1 (cs1 (cs2 (cs2 body)))
noncomputable def L : Code := cL (cB (cs2 (cs1 (cs2 (cs2 body)))))
noncomputable def D : Code := cs2 (cs2 (cs2 body))
theorem body_eq : body = .seq A (.seq B (.seq (.seq C (.block 0 (.loop L))) D)) := by kernel_rfl
noncomputable def Γ : Cons Tryd.prog Gs := []
def mem (ty : TypeId) (ys : List Int) : List Blk := [⟨false, ty, .pre .u8 ys⟩]
def S (ys : List Int) (n : Nat) (ty : TypeId) (i : Nat) (a : Int) (g : Nat → SV) : List SV × List Blk :=
  ([.o (.a (.slg 0 n)), g 1, g 2, (cInt .u64).enc a, g 4, g 5, .o (.a (.slg 0 n)), (cInt .i64).enc (n : Int), (cInt .i64).enc (i : Int), g 9, g 10, g 11, g 12, g 13, g 14, g 15, g 16, g 17, g 18], mem ty ys)
def st (ys : List Int) (n : Nat) (ty : TypeId) (i : Nat) (a : Int) (g : Nat → SV) (o : Orc) : St := ⟨(S ys n ty i a g).1, (S ys n ty i a g).2, o⟩
noncomputable def s0 (ys : List Int) (n : Nat) (ty : TypeId) : St := ⟨startT fn [.o (.a (.slg 0 n))], mem ty ys, []⟩
noncomputable def s1 (ys : List Int) (n : Nat) (ty : TypeId) : St := outS Γ tys 100 A (s0 ys n ty)
noncomputable def s2 (ys : List Int) (n : Nat) (ty : TypeId) : St := outS Γ tys 100 B (s1 ys n ty)
theorem preA (ys : List Int) (n : Nat) (ty : TypeId) : exec Γ tys 100 A (s0 ys n ty) = some (.normal, ⟨(s1 ys n ty).tm, (s1 ys n ty).mem, []⟩, []) := by kernel_rfl
theorem preB (ys : List Int) (n : Nat) (ty : TypeId) : exec Γ tys 100 B ⟨(s1 ys n ty).tm, (s1 ys n ty).mem, []⟩ = some (.normal, ⟨(s2 ys n ty).tm, (s2 ys n ty).mem, []⟩, []) := by kernel_rfl
theorem preC (ys : List Int) (n : Nat) (ty : TypeId) : exec Γ tys 100 C ⟨(s2 ys n ty).tm, (s2 ys n ty).mem, []⟩ = some (.normal, st ys n ty 0 0 (outT Γ tys 100 C (s2 ys n ty)) [], []) := by kernel_rfl
def orc (v i : Int) : Orc := [(9, [true]), (11, [.n v]), (17, [.n i])]
theorem step (ys : List Int) (n : Nat) (ty : TypeId) (i : Nat) (a v : Int) (g : Nat → SV) : exec Γ tys 100 L (st ys n ty i a g (orc v ((i + 1 : Nat) : Int))) =
    some (.normal, st ys n ty (i + 1) (wordS a v) (outT Γ tys 100 L (st ys n ty i a g (orc v ((i + 1 : Nat) : Int)))) [(9, []), (11, []), (17, [])],
      [decide ((i : Int) < (n : Int)) = true, 0 ≤ (i : Int), (i : Int) < (n : Int), 0 + (i : Int).toNat < ys.length, ys.getD (0 + (i : Int).toNat) 0 = v, IntKind.i64.wrap ((i : Int) + 1) = ((i + 1 : Nat) : Int)]) := by kernel_rfl
theorem stop (ys : List Int) (n : Nat) (ty : TypeId) (i : Nat) (a : Int) (g : Nat → SV) : exec Γ tys 100 L (st ys n ty i a g [(9, [false])]) =
    some (.exit 0, st ys n ty i a (outT Γ tys 100 L (st ys n ty i a g [(9, [false])])) [(9, [])], [decide ((i : Int) < (n : Int)) = false]) := by kernel_rfl
noncomputable def fin (ys : List Int) (n : Nat) (ty : TypeId) (i : Nat) (a : Int) (g : Nat → SV) : St := outS Γ tys 100 D (st ys n ty i a g [])
theorem post (ys : List Int) (n : Nat) (ty : TypeId) (i : Nat) (a : Int) (g : Nat → SV) : exec Γ tys 100 D (st ys n ty i a g []) = some (.ret, ⟨(fin ys n ty i a g).tm, (fin ys n ty i a g).mem, []⟩, []) := by kernel_rfl
theorem result (ys : List Int) (n : Nat) (ty : TypeId) (i : Nat) (a : Int) (g : Nat → SV) : eRes tys (fin ys n ty i a g).tm (fun k => (fin ys n ty i a g).mem[k]?) fn.results.toList = some [.a (int1 .u64 a)] := by kernel_rfl
end sword
theorem sword_step (ys : List Int) (n : Nat) (ty : TypeId) (i : Nat) (g : Nat → SV) (hy : ys.length = n) (hn : (n : Int) < 9223372036854775807) (hlt : i < n) {Post : Ex → List SV → List Blk → Prop}
    (hp : ∀ g', Post .normal (sword.S ys n ty (i + 1) (wordG ys (i + 1)) g').1 (sword.S ys n ty (i + 1) (wordG ys (i + 1)) g').2) : RunsF Tryd.prog Gs 1 sword.L (sword.S ys n ty i (wordG ys i) g).1 (sword.S ys n ty i (wordG ys i) g).2 Post := by
  have e0 : 0 + (i : Int).toNat = i := by omega
  have h1 : decide ((i : Int) < (n : Int)) = true := decide_eq_true (by omega)
  have h2 : 0 ≤ (i : Int) := by omega
  have h3 : (i : Int) < (n : Int) := by omega
  have h4 : 0 + (i : Int).toNat < ys.length := by omega
  have h5 : ys.getD (0 + (i : Int).toNat) 0 = ys.getD i 0 := by rw [e0]
  have h6 : IntKind.i64.wrap ((i : Int) + 1) = ((i + 1 : Nat) : Int) := by rw [IntKind.wrap_i64]; omega
  exact Runs.of_exec tys_ok mixed (sword.step ys n ty i (wordG ys i) (ys.getD i 0) g) ⟨h1, h2, h3, h4, h5, h6, trivial⟩ (hp _)
theorem sword_stop (ys : List Int) (n : Nat) (ty : TypeId) (a : Int) (g : Nat → SV) {Post : Ex → List SV → List Blk → Prop} (hp : ∀ g', Post (.exit 0) (sword.S ys n ty n a g').1 (sword.S ys n ty n a g').2) :
    RunsF Tryd.prog Gs 1 sword.L (sword.S ys n ty n a g).1 (sword.S ys n ty n a g).2 Post := by
  have h1 : decide ((n : Int) < (n : Int)) = false := decide_eq_false (by omega)
  exact Runs.of_exec tys_ok mixed (sword.stop ys n ty n a g) ⟨h1, trivial⟩ (hp _)
theorem sword_last (ys : List Int) (n : Nat) (ty : TypeId) (a : Int) (g : Nat → SV) : RunsF Tryd.prog Gs 1 sword.D (sword.S ys n ty n a g).1 (sword.S ys n ty n a g).2 (EndsM tys sword.fn (endsQ ((cInt .u64).enc a) .none)) :=
  Runs.of_exec tys_ok mixed (sword.post ys n ty n a g) trivial (EndsM.ret (sword.result ys n ty n a g) rfl)
theorem sword_loop (ys : List Int) (n : Nat) (ty : TypeId) (hy : ys.length = n) (hn : (n : Int) < 9223372036854775807) (g : Nat → SV) {Post : Ex → List SV → List Blk → Prop} (hp : ∀ g', Post .normal (sword.S ys n ty n (wordG ys n) g').1 (sword.S ys n ty n (wordG ys n) g').2) :
    RunsF Tryd.prog Gs 1 (.block 0 (.loop sword.L)) (sword.S ys n ty 0 0 g).1 (sword.S ys n ty 0 0 g).2 Post := by
  refine Runs.block ?_
  refine Runs.loop (fun (x : Nat × (Nat → SV)) => sword.S ys n ty x.1 (wordG ys x.1) x.2) (fun x => x.1 ≤ n) (fun x => n - x.1) ?_ (0, g) (Nat.zero_le _)
  rintro ⟨i, g⟩ hi
  simp only at hi
  by_cases hlt : i < n
  · exact sword_step ys n ty i g hy hn hlt fun g' => ⟨(i + 1, g'), pair_eta _, hlt, by simp only; omega⟩
  · obtain rfl : i = n := by omega
    exact sword_stop ys i ty _ g hp
theorem sword_run (ys : List Int) (n : Nat) (ty : TypeId) (hy : ys.length = n) (hn : (n : Int) < 9223372036854775807) : RunsF Tryd.prog Gs 1 sword.body (startT sword.fn [.o (.a (.slg 0 n))]) (sword.mem ty ys) (EndsM tys sword.fn (endsQ ((cInt .u64).enc (wordV ys)) .none)) := by
  rw [sword.body_eq]
  refine Runs.seq (Runs.of_exec tys_ok mixed (sword.preA ys n ty) trivial ?_)
  refine Runs.seq (Runs.of_exec tys_ok mixed (sword.preB ys n ty) trivial ?_)
  refine Runs.seq (Runs.seq (Runs.of_exec tys_ok mixed (sword.preC ys n ty) trivial ?_))
  refine sword_loop ys n ty hy hn _ fun g' => ?_
  have h := sword_last ys n ty (wordG ys n) g'
  have e : wordV ys = wordG ys n := by unfold wordV; rw [hy]
  rw [e]
  exact h
noncomputable def sword_con : Con Tryd.prog Gs := Con.hand tys_ok 44 Tryd.f44 Tryd.func44 (by kernel_rfl) (c := sword.body) (by kernel_rfl)
  (Dec.win Tryd.prog .u8 (fun ys => (cInt .u64).enc (wordV ys)) (fun ys => [(ys.length : Int) < 9223372036854775807]) (fun _ => rfl)) (fun x hc hi => sword_run x.ys x.n x.ty hi (by
    have h := (holds_append hc).2.1
    have hi : x.ys.length = x.n := hi
    rw [← hi]; exact h))
end Go.Proofs.YtpmdelihcdaffaaDoor

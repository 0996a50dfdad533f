/- Lists of devices: texts, values, the mark: both sides: walks, contracts. -/
import Derived.Test.YthlmepolmemejaaDoorDDvB
import Derived.Test.YthlmepolmemejaaDoorDEncN
import Derived.Test.YthlmepolmemejaaDoorDREncN
import Derived.Test.YthlmepolmemejaaDoorDMY
namespace Go.Proofs.YthlmepolmemejaaDoor
open Go Go.Eng Go.RowKit
set_option linter.unusedVariables false
set_option linter.unusedSimpArgs false
set_option maxRecDepth 100000
def devW : List Int := [100, 101, 118, 105, 99, 101, 115]
def staW : List Int := [115, 116, 97, 108, 101]
noncomputable def shaW (ys : List Int) : B32 := S3.finB (S3.absorb S3.S0 ys)
noncomputable def valV (l : List B32) : B32 × Int := bif devV l then (shaW (encB [devW, flatB l]), 0) else (zB, 1)
def vS (x : B32 × Int) : SV := resSV [.g (cB32.row x.1), .a (int1 .i64 x.2)]
theorem dev_le {l : List B32} (h : devV l = true) : l.length ≤ 8 := by
  unfold devV at h
  rw [Bool.and_eq_true, decide_eq_true_eq] at h
  omega
namespace txt
noncomputable abbrev fn := Tryd.f12
noncomputable def body : Code := bodyOf fn
namespace w
noncomputable def Γ : Cons Tryd.prog GT := [joi.conP, enc.k2.con]
def m (l : List B32) (n c : Nat) (ty : TypeId) (Y : List Int) : List Blk := [⟨false, ty, .prv (wvals l)⟩] ++ [⟨true, 5, .run .u8 (encB [devW, Y])⟩]
def M (l : List B32) (n c : Nat) (ty : TypeId) (Y : List Int) : List (Option SV) := maskL 15 0 [(2, .o (.a (.sld 1 0 0 (encT [devW, Y]) (encT [devW, Y]))))]
theorem i (l : List B32) (n c : Nat) (ty : TypeId) (Y : List Int) : idsIn (m l n c ty Y).length (M l n c ty Y) (m l n c ty Y) = true := by kernel_rfl
theorem s (l : List B32) (n c : Nat) (ty : TypeId) : outN [0, 4] (M l n c ty (((flatB (bvDec (((wvals l).drop (0 + 0)).take (n * 32)))).drop 0).take (n * 32))) (exec Γ tys 100 body ⟨startT fn [.o (.a (.sld 0 0 0 n c))], ([⟨false, ty, .prv (wvals l)⟩] : List Blk), []⟩) = some (.ret, (live (M l n c ty (((flatB (bvDec (((wvals l).drop (0 + 0)).take (n * 32)))).drop 0).take (n * 32)))).map (SV.ren (piF [0, 4])), (M l n c ty (((flatB (bvDec (((wvals l).drop (0 + 0)).take (n * 32)))).drop 0).take (n * 32))).length, (m l n c ty (((flatB (bvDec (((wvals l).drop (0 + 0)).take (n * 32)))).drop 0).take (n * 32))).map (fun b => some (b.ren (piF [0, 4]))), [0 + 0 + n * 32 ≤ (wvals l).length, n ≤ c, ((wvals l).drop (0 + 0)).take (n * 32) = wvals (bvDec (((wvals l).drop (0 + 0)).take (n * 32))), (bvDec (((wvals l).drop (0 + 0)).take (n * 32))).length = n, n ≤ 8, 0 < n, 7 ≤ 7, 0 + n * 32 ≤ (flatB (bvDec (((wvals l).drop (0 + 0)).take (n * 32)))).length, encT [devW, ((flatB (bvDec (((wvals l).drop (0 + 0)).take (n * 32)))).drop 0).take (n * 32)] ≤ 1048576]) := by kernel_rfl
theorem zr (l : List B32) (n c : Nat) (ty : TypeId) (Y : List Int) (g : Nat → SV) : eRes tys (fill g 0 (M l n c ty Y)) (fun k => (m l n c ty Y)[k]?) fn.results.toList = some [.a (.sld 1 0 0 (encT [devW, Y]) (encT [devW, Y]))] := by kernel_rfl
theorem run (l : List B32) (n c : Nat) (ty : TypeId) (hn : l.length = n) (hc : n ≤ c) (hb : n ≤ 8) (h0 : 0 < n) : RunsF Tryd.prog GT 1 body (startT fn [.o (.a (.sld 0 0 0 n c))]) [⟨false, ty, .prv (wvals l)⟩] (EndsM tys fn (endsQ (.o (.a (.sld 0 0 0 (encT [devW, (flatB l)]) (encT [devW, (flatB l)])))) (.new 5 (.run .u8 (encB [devW, (flatB l)]))))) := by
  have dY : ((wvals l).drop (0 + 0)).take (n * 32) = wvals l := by rw [Nat.add_zero, List.drop_zero, List.take_of_length_le (by rw [wvals_len]; omega)]
  have hl : (wvals l).length = n * 32 := by rw [wvals_len, hn]
  have hf : (flatB l).length = n * 32 := by rw [flatB_len, hn]
  have dF : ((flatB l).drop 0).take (n * 32) = flatB l := by rw [List.drop_zero, List.take_of_length_le (by omega)]
  have hE : encT [devW, flatB l] = 19 + n * 32 := by simp only [encT, encL, hf]; rw [show devW.length = 7 from rfl]; omega
  have q := s l n c ty
  rw [dY, bvDec_vals, dF] at q
  exact Runs.of_outN tys_ok mixed [0, 4] q ⟨by omega, hc, rfl, hn, hb, h0, by decide, by omega, by omega, trivial⟩ (i l n c ty _) rfl fun g => EndsM.ret (zr l n c ty _ g) ⟨1, rfl, rfl⟩
end w
namespace z
noncomputable def Γ : Cons Tryd.prog GT := [joi.conZ, enc.k2n.con]
def m (c : Nat) (ty : TypeId) (Y : List Int) : List Blk := [⟨false, ty, .prv (wvals [])⟩] ++ [⟨true, 5, .run .u8 (encB [devW, Y])⟩]
def M (c : Nat) (ty : TypeId) (Y : List Int) : List (Option SV) := maskL 15 0 [(2, .o (.a (.sld 1 0 0 (encT [devW, Y]) (encT [devW, Y]))))]
theorem i (c : Nat) (ty : TypeId) (Y : List Int) : idsIn (m c ty Y).length (M c ty Y) (m c ty Y) = true := by kernel_rfl
theorem s (c : Nat) (ty : TypeId) : outN [0, 3] (M c ty []) (exec Γ tys 100 body ⟨startT fn [.o (.a (.sld 0 0 0 0 c))], ([⟨false, ty, .prv (wvals [])⟩] : List Blk), []⟩) = some (.ret, (live (M c ty [])).map (SV.ren (piF [0, 3])), (M c ty []).length, (m c ty []).map (fun b => some (b.ren (piF [0, 3]))), [0 + 0 + 0 * 32 ≤ (wvals []).length, 0 ≤ c, ((wvals []).drop (0 + 0)).take (0 * 32) = wvals (bvDec (((wvals []).drop (0 + 0)).take (0 * 32))), 0 = 0, 7 ≤ 7, encT [devW, []] ≤ 1048576]) := by kernel_rfl
theorem zr (c : Nat) (ty : TypeId) (Y : List Int) (g : Nat → SV) : eRes tys (fill g 0 (M c ty Y)) (fun k => (m c ty Y)[k]?) fn.results.toList = some [.a (.sld 1 0 0 (encT [devW, Y]) (encT [devW, Y]))] := by kernel_rfl
theorem run (c : Nat) (ty : TypeId) : RunsF Tryd.prog GT 1 body (startT fn [.o (.a (.sld 0 0 0 0 c))]) [⟨false, ty, .prv (wvals [])⟩] (EndsM tys fn (endsQ (.o (.a (.sld 0 0 0 (encT [devW, []]) (encT [devW, []])))) (.new 5 (.run .u8 (encB [devW, []]))))) := by
  exact Runs.of_outN tys_ok mixed [0, 3] (s c ty) ⟨by decide, Nat.zero_le _, by rw [show ((wvals []).drop (0 + 0)).take (0 * 32) = wvals [] from rfl, bvDec_vals], rfl, by decide, by decide, trivial⟩ (i c ty _) rfl fun g => EndsM.ret (zr c ty _ g) ⟨1, rfl, rfl⟩
end z
namespace n
noncomputable def Γ : Cons Tryd.prog GT := [joi.conZ, enc.k2n.con]
def m (a : Option Addr) (Y : List Int) : List Blk := [] ++ [⟨true, 5, .run .u8 (encB [devW, Y])⟩]
def M (a : Option Addr) (Y : List Int) : List (Option SV) := maskL 15 0 [(2, .o (.a (.sld 0 0 0 (encT [devW, Y]) (encT [devW, Y]))))]
theorem i (a : Option Addr) (Y : List Int) : idsIn (m a Y).length (M a Y) (m a Y) = true := by kernel_rfl
theorem s (a : Option Addr) : outN [2] (M a []) (exec Γ tys 100 body ⟨startT fn [.o (.a (.v (.slice a 0 0)))], ([] : List Blk), []⟩) = some (.ret, (live (M a [])).map (SV.ren (piF [2])), (M a []).length, (m a []).map (fun b => some (b.ren (piF [2]))), [7 ≤ 7, encT [devW, []] ≤ 1048576]) := by kernel_rfl
theorem zr (a : Option Addr) (Y : List Int) (g : Nat → SV) : eRes tys (fill g 0 (M a Y)) (fun k => (m a Y)[k]?) fn.results.toList = some [.a (.sld 0 0 0 (encT [devW, Y]) (encT [devW, Y]))] := by kernel_rfl
theorem run (a : Option Addr) : RunsF Tryd.prog GT 0 body (startT fn [.o (.a (.v (.slice a 0 0)))]) [] (EndsM tys fn (endsQ (.o (.a (.sld 0 0 0 (encT [devW, []]) (encT [devW, []])))) (.new 5 (.run .u8 (encB [devW, []]))))) := by
  exact Runs.of_outN tys_ok mixed [2] (s a) ⟨by decide, by decide, trivial⟩ (i a _) rfl fun g => EndsM.ret (zr a _ g) ⟨0, rfl, rfl⟩
end n
noncomputable def specP : List PArg → Option (SV × LEff × Cst)
  | [.winv _ vs n ty] => some ((.o (.a (.sld 0 0 0 (encT [devW, flatB (bvDec vs)]) (encT [devW, flatB (bvDec vs)])))), .new 5 (.run .u8 (encB [devW, flatB (bvDec vs)])), [vs = wvals (bvDec vs), (bvDec vs).length = n, n ≤ 8, 0 < n])
  | _ => none
noncomputable def conP : Con Tryd.prog GT := Con.parts tys_ok 12 fn Tryd.func12 (by kernel_rfl) (c := body) (by kernel_rfl) [.winv 32] (specP )
  (fun ps r e p h hp => by
    unfold specP at h
    split at h <;> cases h
    exact ⟨rfl, fun b hb => by simp only [locBlks, PArg.blk, List.append_nil, List.mem_singleton] at hb; rw [hb]⟩
    )
  (fun ps r e p cap h hp hi => by
    unfold specP at h
    split at h <;> cases h
    rename_i s vs n ty
    obtain ⟨p1, p2, p3, p4, _⟩ := hp
    have q := w.run (bvDec vs) n (cap 0) ty p2 hi.1.2 p3 p4
    rw [← p1] at q
    exact q
    )
noncomputable def specZ : List PArg → Option (SV × LEff × Cst)
  | [.winv _ vs n ty] => some ((.o (.a (.sld 0 0 0 (encT [devW, []]) (encT [devW, []])))), .new 5 (.run .u8 (encB [devW, []])), [vs = wvals [], n = 0])
  | [.val (.o (.a (.v (.slice a 0 0))))] => some ((.o (.a (.sld 0 0 0 (encT [devW, []]) (encT [devW, []])))), .new 5 (.run .u8 (encB [devW, []])), [])
  | _ => none
noncomputable def conZ : Con Tryd.prog GT := Con.parts tys_ok 12 fn Tryd.func12 (by kernel_rfl) (c := body) (by kernel_rfl) [.winv 32] (specZ )
  (fun ps r e p h hp => by
    unfold specZ at h
    split at h <;> cases h
    · exact ⟨rfl, fun b hb => by simp only [locBlks, PArg.blk, List.append_nil, List.mem_singleton] at hb; rw [hb]⟩
    · exact ⟨rfl, fun b hb => by simp [locBlks, PArg.blk] at hb⟩
    )
  (fun ps r e p cap h hp hi => by
    unfold specZ at h
    split at h <;> cases h
    · rename_i s vs n ty
      obtain ⟨p1, p2, _⟩ := hp
      subst p2
      rw [p1]
      exact z.run (cap 0) ty
    · rename_i a
      exact n.run a
    )
end txt
namespace rtx
noncomputable abbrev fn := Tryd.f15
noncomputable def body : Code := bodyOf fn
namespace w
noncomputable def Γ : Cons Tryd.prog GT := [hss.conP, renc.k2.con]
def m (l : List B32) (n c : Nat) (ty : TypeId) (Y : List Int) : List Blk := [⟨false, ty, .prv (wvals l)⟩] ++ [⟨true, 5, .gro .u8 (encB [devW, Y]) (encT [devW, Y]) none⟩]
def M (l : List B32) (n c : Nat) (ty : TypeId) (Y : List Int) : List (Option SV) := maskL 15 0 [(2, .o (.a (.slg 1 (encT [devW, Y]))))]
theorem i (l : List B32) (n c : Nat) (ty : TypeId) (Y : List Int) : idsIn (m l n c ty Y).length (M l n c ty Y) (m l n c ty Y) = true := by kernel_rfl
theorem s (l : List B32) (n c : Nat) (ty : TypeId) : outN [0, 4] (M l n c ty (((flatB (bvDec (((wvals l).drop (0 + 0)).take (n * 32)))).drop 0).take (n * 32))) (exec Γ tys 100 body ⟨startT fn [.o (.a (.sld 0 0 0 n c))], ([⟨false, ty, .prv (wvals l)⟩] : List Blk), []⟩) = some (.ret, (live (M l n c ty (((flatB (bvDec (((wvals l).drop (0 + 0)).take (n * 32)))).drop 0).take (n * 32)))).map (SV.ren (piF [0, 4])), (M l n c ty (((flatB (bvDec (((wvals l).drop (0 + 0)).take (n * 32)))).drop 0).take (n * 32))).length, (m l n c ty (((flatB (bvDec (((wvals l).drop (0 + 0)).take (n * 32)))).drop 0).take (n * 32))).map (fun b => some (b.ren (piF [0, 4]))), [0 + 0 + n * 32 ≤ (wvals l).length, n ≤ c, ((wvals l).drop (0 + 0)).take (n * 32) = wvals (bvDec (((wvals l).drop (0 + 0)).take (n * 32))), (bvDec (((wvals l).drop (0 + 0)).take (n * 32))).length = n, n ≤ 8, 0 < n, 7 ≤ 7, 0 + n * 32 ≤ (flatB (bvDec (((wvals l).drop (0 + 0)).take (n * 32)))).length, encT [devW, ((flatB (bvDec (((wvals l).drop (0 + 0)).take (n * 32)))).drop 0).take (n * 32)] ≤ 1048576]) := by kernel_rfl
theorem zr (l : List B32) (n c : Nat) (ty : TypeId) (Y : List Int) (g : Nat → SV) : eRes tys (fill g 0 (M l n c ty Y)) (fun k => (m l n c ty Y)[k]?) fn.results.toList = some [.a (.slg 1 (encT [devW, Y]))] := by kernel_rfl
theorem run (l : List B32) (n c : Nat) (ty : TypeId) (hn : l.length = n) (hc : n ≤ c) (hb : n ≤ 8) (h0 : 0 < n) : RunsF Tryd.prog GT 1 body (startT fn [.o (.a (.sld 0 0 0 n c))]) [⟨false, ty, .prv (wvals l)⟩] (EndsM tys fn (endsQ (.o (.a (.slg 0 (encT [devW, (flatB l)])))) (.new 5 (.gro .u8 (encB [devW, (flatB l)]) (encT [devW, (flatB l)]) none)))) := by
  have dY : ((wvals l).drop (0 + 0)).take (n * 32) = wvals l := by rw [Nat.add_zero, List.drop_zero, List.take_of_length_le (by rw [wvals_len]; omega)]
  have hl : (wvals l).length = n * 32 := by rw [wvals_len, hn]
  have hf : (flatB l).length = n * 32 := by rw [flatB_len, hn]
  have dF : ((flatB l).drop 0).take (n * 32) = flatB l := by rw [List.drop_zero, List.take_of_length_le (by omega)]
  have hE : encT [devW, flatB l] = 19 + n * 32 := by simp only [encT, encL, hf]; rw [show devW.length = 7 from rfl]; omega
  have q := s l n c ty
  rw [dY, bvDec_vals, dF] at q
  exact Runs.of_outN tys_ok mixed [0, 4] q ⟨by omega, hc, rfl, hn, hb, h0, by decide, by omega, by omega, trivial⟩ (i l n c ty _) rfl fun g => EndsM.ret (zr l n c ty _ g) ⟨1, rfl, rfl⟩
end w
namespace z
noncomputable def Γ : Cons Tryd.prog GT := [hss.conZ, renc.k2n.con]
def m (c : Nat) (ty : TypeId) (Y : List Int) : List Blk := [⟨false, ty, .prv (wvals [])⟩] ++ [⟨true, 5, .gro .u8 (encB [devW, Y]) (encT [devW, Y]) none⟩]
def M (c : Nat) (ty : TypeId) (Y : List Int) : List (Option SV) := maskL 15 0 [(2, .o (.a (.slg 1 (encT [devW, Y]))))]
theorem i (c : Nat) (ty : TypeId) (Y : List Int) : idsIn (m c ty Y).length (M c ty Y) (m c ty Y) = true := by kernel_rfl
theorem s (c : Nat) (ty : TypeId) : outN [0, 3] (M c ty []) (exec Γ tys 100 body ⟨startT fn [.o (.a (.sld 0 0 0 0 c))], ([⟨false, ty, .prv (wvals [])⟩] : List Blk), []⟩) = some (.ret, (live (M c ty [])).map (SV.ren (piF [0, 3])), (M c ty []).length, (m c ty []).map (fun b => some (b.ren (piF [0, 3]))), [0 + 0 + 0 * 32 ≤ (wvals []).length, 0 ≤ c, ((wvals []).drop (0 + 0)).take (0 * 32) = wvals (bvDec (((wvals []).drop (0 + 0)).take (0 * 32))), 0 = 0, 7 ≤ 7, encT [devW, []] ≤ 1048576]) := by kernel_rfl
theorem zr (c : Nat) (ty : TypeId) (Y : List Int) (g : Nat → SV) : eRes tys (fill g 0 (M c ty Y)) (fun k => (m c ty Y)[k]?) fn.results.toList = some [.a (.slg 1 (encT [devW, Y]))] := by kernel_rfl
theorem run (c : Nat) (ty : TypeId) : RunsF Tryd.prog GT 1 body (startT fn [.o (.a (.sld 0 0 0 0 c))]) [⟨false, ty, .prv (wvals [])⟩] (EndsM tys fn (endsQ (.o (.a (.slg 0 (encT [devW, []])))) (.new 5 (.gro .u8 (encB [devW, []]) (encT [devW, []]) none)))) := by
  exact Runs.of_outN tys_ok mixed [0, 3] (s c ty) ⟨by decide, Nat.zero_le _, by rw [show ((wvals []).drop (0 + 0)).take (0 * 32) = wvals [] from rfl, bvDec_vals], rfl, by decide, by decide, trivial⟩ (i c ty _) rfl fun g => EndsM.ret (zr c ty _ g) ⟨1, rfl, rfl⟩
end z
namespace n
noncomputable def Γ : Cons Tryd.prog GT := [hss.conZ, renc.k2n.con]
def m (a : Option Addr) (Y : List Int) : List Blk := [] ++ [⟨true, 5, .gro .u8 (encB [devW, Y]) (encT [devW, Y]) none⟩]
def M (a : Option Addr) (Y : List Int) : List (Option SV) := maskL 15 0 [(2, .o (.a (.slg 0 (encT [devW, Y]))))]
theorem i (a : Option Addr) (Y : List Int) : idsIn (m a Y).length (M a Y) (m a Y) = true := by kernel_rfl
theorem s (a : Option Addr) : outN [2] (M a []) (exec Γ tys 100 body ⟨startT fn [.o (.a (.v (.slice a 0 0)))], ([] : List Blk), []⟩) = some (.ret, (live (M a [])).map (SV.ren (piF [2])), (M a []).length, (m a []).map (fun b => some (b.ren (piF [2]))), [7 ≤ 7, encT [devW, []] ≤ 1048576]) := by kernel_rfl
theorem zr (a : Option Addr) (Y : List Int) (g : Nat → SV) : eRes tys (fill g 0 (M a Y)) (fun k => (m a Y)[k]?) fn.results.toList = some [.a (.slg 0 (encT [devW, Y]))] := by kernel_rfl
theorem run (a : Option Addr) : RunsF Tryd.prog GT 0 body (startT fn [.o (.a (.v (.slice a 0 0)))]) [] (EndsM tys fn (endsQ (.o (.a (.slg 0 (encT [devW, []])))) (.new 5 (.gro .u8 (encB [devW, []]) (encT [devW, []]) none)))) := by
  exact Runs.of_outN tys_ok mixed [2] (s a) ⟨by decide, by decide, trivial⟩ (i a _) rfl fun g => EndsM.ret (zr a _ g) ⟨0, rfl, rfl⟩
end n
noncomputable def specP : List PArg → Option (SV × LEff × Cst)
  | [.winv _ vs n ty] => some ((.o (.a (.slg 0 (encT [devW, flatB (bvDec vs)])))), .new 5 (.gro .u8 (encB [devW, flatB (bvDec vs)]) (encT [devW, flatB (bvDec vs)]) none), [vs = wvals (bvDec vs), (bvDec vs).length = n, n ≤ 8, 0 < n])
  | _ => none
noncomputable def conP : Con Tryd.prog GT := Con.parts tys_ok 15 fn Tryd.func15 (by kernel_rfl) (c := body) (by kernel_rfl) [.winv 32] (specP )
  (fun ps r e p h hp => by
    unfold specP at h
    split at h <;> cases h
    exact ⟨rfl, fun b hb => by simp only [locBlks, PArg.blk, List.append_nil, List.mem_singleton] at hb; rw [hb]⟩
    )
  (fun ps r e p cap h hp hi => by
    unfold specP at h
    split at h <;> cases h
    rename_i s vs n ty
    obtain ⟨p1, p2, p3, p4, _⟩ := hp
    have q := w.run (bvDec vs) n (cap 0) ty p2 hi.1.2 p3 p4
    rw [← p1] at q
    exact q
    )
noncomputable def specZ : List PArg → Option (SV × LEff × Cst)
  | [.winv _ vs n ty] => some ((.o (.a (.slg 0 (encT [devW, []])))), .new 5 (.gro .u8 (encB [devW, []]) (encT [devW, []]) none), [vs = wvals [], n = 0])
  | [.val (.o (.a (.v (.slice a 0 0))))] => some ((.o (.a (.slg 0 (encT [devW, []])))), .new 5 (.gro .u8 (encB [devW, []]) (encT [devW, []]) none), [])
  | _ => none
noncomputable def conZ : Con Tryd.prog GT := Con.parts tys_ok 15 fn Tryd.func15 (by kernel_rfl) (c := body) (by kernel_rfl) [.winv 32] (specZ )
  (fun ps r e p h hp => by
    unfold specZ at h
    split at h <;> cases h
    · exact ⟨rfl, fun b hb => by simp only [locBlks, PArg.blk, List.append_nil, List.mem_singleton] at hb; rw [hb]⟩
    · exact ⟨rfl, fun b hb => by simp [locBlks, PArg.blk] at hb⟩
    )
  (fun ps r e p cap h hp hi => by
    unfold specZ at h
    split at h <;> cases h
    · rename_i s vs n ty
      obtain ⟨p1, p2, _⟩ := hp
      subst p2
      rw [p1]
      exact z.run (cap 0) ty
    · rename_i a
      exact n.run a
    )
end rtx
theorem b4_bw (x : Int) : ∀ y ∈ b4 x, S3.Byt y := fun y hy => by
  have hw : ∀ z : Int, S3.Byt (IntKind.u8.wrap z) := fun z => by rw [IntKind.wrap_u8]; exact ⟨by omega, by omega⟩
  unfold b4 at hy
  simp only [List.mem_cons, List.not_mem_nil, or_false] at hy
  rcases hy with rfl | rfl | rfl | rfl <;> exact hw _
theorem encR_bw : ∀ {ls : List (List Int)}, (∀ l ∈ ls, ∀ y ∈ l, S3.Byt y) → ∀ y ∈ encR ls, S3.Byt y
  | [], _, y, hy => by cases hy
  | l :: r, h, y, hy => by
    rw [encR] at hy
    rcases List.mem_append.1 hy with hy | hy
    · exact b4_bw _ y hy
    · rcases List.mem_append.1 hy with hy | hy
      · exact h l (by simp) y hy
      · exact encR_bw (fun l' hl' => h l' (by simp [hl'])) y hy
theorem encB_bw {ls : List (List Int)} (h : ∀ l ∈ ls, ∀ y ∈ l, S3.Byt y) : ∀ y ∈ encB ls, S3.Byt y := fun y hy => by
  unfold encB at hy
  rcases List.mem_append.1 hy with hy | hy
  · exact b4_bw _ y hy
  · exact encR_bw h y hy
theorem devW_byt : ∀ y ∈ devW, S3.Byt y := by unfold devW; intro y hy; simp only [List.mem_cons, List.not_mem_nil, or_false] at hy; rcases hy with rfl | rfl | rfl | rfl | rfl | rfl | rfl <;> exact ⟨by decide, by decide⟩
theorem staW_byt : ∀ y ∈ staW, S3.Byt y := by unfold staW; intro y hy; simp only [List.mem_cons, List.not_mem_nil, or_false] at hy; rcases hy with rfl | rfl | rfl | rfl | rfl <;> exact ⟨by decide, by decide⟩
theorem flatB_byt {l : List B32} (h : AllB l) : ∀ y ∈ flatB l, S3.Byt y := fun y hy => by
  obtain ⟨b, hb, hy⟩ := List.mem_flatMap.1 hy
  exact to_byte (h b hb) y hy
theorem txt_byt {l : List B32} (h : AllB l) : ∀ y ∈ encB [devW, flatB l], S3.Byt y := encB_bw fun x hx => by
  simp only [List.mem_cons, List.not_mem_nil, or_false] at hx
  rcases hx with rfl | rfl
  · exact devW_byt
  · exact flatB_byt h
theorem all_w (xs : List Int) {k : Nat} (h : xs.length = k) : (xs.drop 0).take k = xs := by rw [List.drop_zero, List.take_of_length_le (by omega)]
theorem allNilB : AllB [] := fun x hx => by cases hx
theorem val_t {l : List B32} (h : devV l = true) : valV l = (shaW (encB [devW, flatB l]), 0) := by unfold valV; rw [h, cond_true]
theorem val_f {l : List B32} (h : devV l = false) : valV l = (zB, 1) := by unfold valV; rw [h, cond_false]
namespace val
noncomputable abbrev fn := Tryd.f5
noncomputable def body : Code := bodyOf fn
namespace w
noncomputable def Γ : Cons Tryd.prog GT := [wdv.con, txt.conP, S3.s256_con]
def m (l : List B32) (n c : Nat) (ty : TypeId) (h : B32) : List Blk := [⟨false, ty, .prv (wvals l)⟩] ++ [⟨true, 24, .lit (cB32.row h)⟩]
def M (l : List B32) (n c : Nat) (ty : TypeId) (e : Int) : List (Option SV) := maskL 11 0 [(2, .o (.a (.ptr 1 0))), (3, .o (.a (int1 .i64 e)))]
theorem i (l : List B32) (n c : Nat) (ty : TypeId) (h : B32) (e : Int) : idsIn (m l n c ty h).length (M l n c ty e) (m l n c ty h) = true := by kernel_rfl
theorem zr (l : List B32) (n c : Nat) (ty : TypeId) (h : B32) (e : Int) (g : Nat → SV) : eRes tys (fill g 0 (M l n c ty e)) (fun k => (m l n c ty h)[k]?) fn.results.toList = some [.g (cB32.row h), .a (int1 .i64 e)] := by kernel_rfl
theorem t (l : List B32) (n c : Nat) (ty : TypeId) (h : B32) : outN [0, 1] (M l n c ty 0) (exec Γ tys 100 body ⟨startT fn [.o (.a (.sld 0 0 0 n c))], ([⟨false, ty, .prv (wvals l)⟩] : List Blk), [(5, [.s (cBool.enc true)]), (10, [.s (cB32.enc h)])]⟩) = some (.ret, (live (M l n c ty 0)).map (SV.ren (piF [0, 1])), (M l n c ty 0).length, (m l n c ty h).map (fun b => some (b.ren (piF [0, 1]))), [0 + 0 + n * 32 ≤ (wvals l).length, n ≤ c, ((wvals l).drop (0 + 0)).take (n * 32) = wvals (bvDec (((wvals l).drop (0 + 0)).take (n * 32))), (bvDec (((wvals l).drop (0 + 0)).take (n * 32))).length = n, n ≤ 4398046510976, AllB (bvDec (((wvals l).drop (0 + 0)).take (n * 32))), cBool.enc (devV (bvDec (((wvals l).drop (0 + 0)).take (n * 32)))) = cBool.enc true, 0 + 0 + n * 32 ≤ (wvals l).length, n ≤ c, ((wvals l).drop (0 + 0)).take (n * 32) = wvals (bvDec (((wvals l).drop (0 + 0)).take (n * 32))), (bvDec (((wvals l).drop (0 + 0)).take (n * 32))).length = n, n ≤ 8, 0 < n, 0 + encT [devW, flatB (bvDec (((wvals l).drop (0 + 0)).take (n * 32)))] ≤ (encB [devW, flatB (bvDec (((wvals l).drop (0 + 0)).take (n * 32)))]).length, encT [devW, flatB (bvDec (((wvals l).drop (0 + 0)).take (n * 32)))] ≤ encT [devW, flatB (bvDec (((wvals l).drop (0 + 0)).take (n * 32)))], cB32.enc (S3.finB (S3.absorb S3.S0 (((encB [devW, flatB (bvDec (((wvals l).drop (0 + 0)).take (n * 32)))]).drop 0).take (encT [devW, flatB (bvDec (((wvals l).drop (0 + 0)).take (n * 32)))])))) = cB32.enc h]) := by kernel_rfl
theorem f (l : List B32) (n c : Nat) (ty : TypeId) : outN [0, 1] (M l n c ty 1) (exec Γ tys 100 body ⟨startT fn [.o (.a (.sld 0 0 0 n c))], ([⟨false, ty, .prv (wvals l)⟩] : List Blk), [(5, [.s (cBool.enc false)])]⟩) = some (.ret, (live (M l n c ty 1)).map (SV.ren (piF [0, 1])), (M l n c ty 1).length, (m l n c ty zB).map (fun b => some (b.ren (piF [0, 1]))), [0 + 0 + n * 32 ≤ (wvals l).length, n ≤ c, ((wvals l).drop (0 + 0)).take (n * 32) = wvals (bvDec (((wvals l).drop (0 + 0)).take (n * 32))), (bvDec (((wvals l).drop (0 + 0)).take (n * 32))).length = n, n ≤ 4398046510976, AllB (bvDec (((wvals l).drop (0 + 0)).take (n * 32))), cBool.enc (devV (bvDec (((wvals l).drop (0 + 0)).take (n * 32)))) = cBool.enc false]) := by kernel_rfl
theorem run (l : List B32) (n c : Nat) (ty : TypeId) (hn : l.length = n) (hc : n ≤ c) (hb : n ≤ 4398046510976) (h0 : 0 < n) (hok : AllB l) : RunsF Tryd.prog GT 1 body (startT fn [.o (.a (.sld 0 0 0 n c))]) [⟨false, ty, .prv (wvals l)⟩] (EndsM tys fn (endsQ (vS (valV l)) .none)) := by
  have dY : ((wvals l).drop (0 + 0)).take (n * 32) = wvals l := by rw [Nat.add_zero, List.drop_zero, List.take_of_length_le (by rw [wvals_len]; omega)]
  have hl : (wvals l).length = n * 32 := by rw [wvals_len, hn]
  have hf : (flatB l).length = n * 32 := by rw [flatB_len, hn]
  cases hd : devV l with
  | false =>
    rw [val_f hd]
    have q := f l n c ty
    rw [dY, bvDec_vals] at q
    exact Runs.of_outN tys_ok mixed [0, 1] q ⟨by omega, hc, rfl, hn, hb, hok, by rw [hd], trivial⟩ (i l n c ty _ _) rfl fun g => EndsM.ret (zr l n c ty _ _ g) rfl
  | true =>
    have h8 := dev_le hd
    have hE : encT [devW, flatB l] = 19 + n * 32 := by simp only [encT, encL, hf]; rw [show devW.length = 7 from rfl]; omega
    rw [val_t hd]
    have q := t l n c ty (shaW (encB [devW, flatB l]))
    rw [dY, bvDec_vals, all_w (encB [devW, flatB l]) (encB_len _)] at q
    exact Runs.of_outN tys_ok mixed [0, 1] q ⟨by omega, hc, rfl, hn, hb, hok, by rw [hd], by omega, hc, rfl, hn, by omega, h0, by rw [encB_len]; omega, Nat.le_refl _, rfl, trivial⟩ (i l n c ty _ _) rfl fun g => EndsM.ret (zr l n c ty _ _ g) rfl
end w
namespace z
noncomputable def Γ : Cons Tryd.prog GT := [wdv.con, txt.conZ, S3.s256_con]
def m (c : Nat) (ty : TypeId) (h : B32) : List Blk := [⟨false, ty, .prv (wvals [])⟩] ++ [⟨true, 24, .lit (cB32.row h)⟩]
def M (c : Nat) (ty : TypeId) (e : Int) : List (Option SV) := maskL 11 0 [(2, .o (.a (.ptr 1 0))), (3, .o (.a (int1 .i64 e)))]
theorem i (c : Nat) (ty : TypeId) (h : B32) (e : Int) : idsIn (m c ty h).length (M c ty e) (m c ty h) = true := by kernel_rfl
theorem zr (c : Nat) (ty : TypeId) (h : B32) (e : Int) (g : Nat → SV) : eRes tys (fill g 0 (M c ty e)) (fun k => (m c ty h)[k]?) fn.results.toList = some [.g (cB32.row h), .a (int1 .i64 e)] := by kernel_rfl
theorem t (c : Nat) (ty : TypeId) (h : B32) : outN [0, 1] (M c ty 0) (exec Γ tys 100 body ⟨startT fn [.o (.a (.sld 0 0 0 0 c))], ([⟨false, ty, .prv (wvals [])⟩] : List Blk), [(5, [.s (cBool.enc true)]), (10, [.s (cB32.enc h)])]⟩) = some (.ret, (live (M c ty 0)).map (SV.ren (piF [0, 1])), (M c ty 0).length, (m c ty h).map (fun b => some (b.ren (piF [0, 1]))), [0 + 0 + 0 * 32 ≤ (wvals []).length, 0 ≤ c, ((wvals []).drop (0 + 0)).take (0 * 32) = wvals (bvDec (((wvals []).drop (0 + 0)).take (0 * 32))), (bvDec (((wvals []).drop (0 + 0)).take (0 * 32))).length = 0, 0 ≤ 4398046510976, AllB (bvDec (((wvals []).drop (0 + 0)).take (0 * 32))), cBool.enc (devV (bvDec (((wvals []).drop (0 + 0)).take (0 * 32)))) = cBool.enc true, 0 + 0 + 0 * 32 ≤ (wvals []).length, 0 ≤ c, ((wvals []).drop (0 + 0)).take (0 * 32) = wvals [], 0 = 0, 0 + encT [devW, []] ≤ (encB [devW, []]).length, encT [devW, []] ≤ encT [devW, []], cB32.enc (S3.finB (S3.absorb S3.S0 (((encB [devW, []]).drop 0).take (encT [devW, []])))) = cB32.enc h]) := by kernel_rfl
theorem run (c : Nat) (ty : TypeId) : RunsF Tryd.prog GT 1 body (startT fn [.o (.a (.sld 0 0 0 0 c))]) [⟨false, ty, .prv (wvals [])⟩] (EndsM tys fn (endsQ (vS (valV [])) .none)) := by
  have hE : encT [devW, []] = 19 := rfl
  rw [val_t (l := []) rfl, show flatB [] = [] from rfl]
  have q := t c ty (shaW (encB [devW, []]))
  rw [all_w (encB [devW, []]) (encB_len _)] at q
  exact Runs.of_outN tys_ok mixed [0, 1] q ⟨by decide, Nat.zero_le _, by rw [show ((wvals []).drop (0 + 0)).take (0 * 32) = wvals [] from rfl, bvDec_vals], (by rw [show bvDec (((wvals []).drop (0 + 0)).take (0 * 32)) = [] from bvDec_vals []]; rfl), by decide, (by rw [show bvDec (((wvals []).drop (0 + 0)).take (0 * 32)) = [] from bvDec_vals []]; exact allNilB), (by rw [show bvDec (((wvals []).drop (0 + 0)).take (0 * 32)) = [] from bvDec_vals []]; rfl), by decide, Nat.zero_le _, rfl, rfl, by rw [encB_len]; omega, Nat.le_refl _, rfl, trivial⟩ (i c ty _ _) rfl fun g => EndsM.ret (zr c ty _ _ g) rfl
end z
namespace n
noncomputable def Γ : Cons Tryd.prog GT := [wdv.con, txt.conZ, S3.s256_con]
def m (a : Option Addr) (h : B32) : List Blk := [] ++ [⟨true, 24, .lit (cB32.row h)⟩]
def M (a : Option Addr) (e : Int) : List (Option SV) := maskL 11 0 [(2, .o (.a (.ptr 0 0))), (3, .o (.a (int1 .i64 e)))]
theorem i (a : Option Addr) (h : B32) (e : Int) : idsIn (m a h).length (M a e) (m a h) = true := by kernel_rfl
theorem zr (a : Option Addr) (h : B32) (e : Int) (g : Nat → SV) : eRes tys (fill g 0 (M a e)) (fun k => (m a h)[k]?) fn.results.toList = some [.g (cB32.row h), .a (int1 .i64 e)] := by kernel_rfl
theorem t (a : Option Addr) (h : B32) : outN [0] (M a 0) (exec Γ tys 100 body ⟨startT fn [.o (.a (.v (.slice a 0 0)))], ([] : List Blk), [(5, [.s (cBool.enc true)]), (10, [.s (cB32.enc h)])]⟩) = some (.ret, (live (M a 0)).map (SV.ren (piF [0])), (M a 0).length, (m a h).map (fun b => some (b.ren (piF [0]))), [cBool.enc true = cBool.enc true, 0 + encT [devW, []] ≤ (encB [devW, []]).length, encT [devW, []] ≤ encT [devW, []], cB32.enc (S3.finB (S3.absorb S3.S0 (((encB [devW, []]).drop 0).take (encT [devW, []])))) = cB32.enc h]) := by kernel_rfl
theorem run (a : Option Addr) : RunsF Tryd.prog GT 0 body (startT fn [.o (.a (.v (.slice a 0 0)))]) [] (EndsM tys fn (endsQ (vS (valV [])) .none)) := by
  have hE : encT [devW, []] = 19 := rfl
  rw [val_t (l := []) rfl, show flatB [] = [] from rfl]
  have q := t a (shaW (encB [devW, []]))
  rw [all_w (encB [devW, []]) (encB_len _)] at q
  exact Runs.of_outN tys_ok mixed [0] q ⟨rfl, by rw [encB_len]; omega, Nat.le_refl _, rfl, trivial⟩ (i a _ _) rfl fun g => EndsM.ret (zr a _ _ g) rfl
end n
noncomputable def specP (V : List B32 → B32 × Int) : List PArg → Option (SV × LEff × Cst)
  | [.winv _ vs n ty] => some (resSV [.g (cB32.row (V (bvDec vs)).1), .a (int1 .i64 (V (bvDec vs)).2)], .none, [vs = wvals (bvDec vs), (bvDec vs).length = n, n ≤ 4398046510976, AllB (bvDec vs), 0 < n])
  | _ => none
noncomputable def conP (V : List B32 → B32 × Int) (hV : V = valV) : Con Tryd.prog GT := Con.parts tys_ok 5 fn Tryd.func5 (by kernel_rfl) (c := body) (by kernel_rfl) [.winv 32] (specP V)
  (fun ps r e p h hp => by
    unfold specP at h
    split at h <;> cases h
    exact ⟨rfl, fun b hb => by simp only [locBlks, PArg.blk, List.append_nil, List.mem_singleton] at hb; rw [hb]⟩
    )
  (fun ps r e p cap h hp hi => by
    unfold specP at h
    split at h <;> cases h
    rename_i s vs n ty
    obtain ⟨p1, p2, p3, p4, p5, _⟩ := hp
    have q := w.run (bvDec vs) n (cap 0) ty p2 hi.1.2 p3 p5 p4
    rw [← p1] at q
    rw [hV]
    exact q
    )
noncomputable def specZ (V : List B32 → B32 × Int) : List PArg → Option (SV × LEff × Cst)
  | [.winv _ vs n ty] => some (resSV [.g (cB32.row (V []).1), .a (int1 .i64 (V []).2)], .none, [vs = wvals [], n = 0])
  | [.val (.o (.a (.v (.slice a 0 0))))] => some (resSV [.g (cB32.row (V []).1), .a (int1 .i64 (V []).2)], .none, [])
  | _ => none
noncomputable def conZ (V : List B32 → B32 × Int) (hV : V = valV) : Con Tryd.prog GT := Con.parts tys_ok 5 fn Tryd.func5 (by kernel_rfl) (c := body) (by kernel_rfl) [.winv 32] (specZ V)
  (fun ps r e p h hp => by
    unfold specZ at h
    split at h <;> cases h
    · exact ⟨rfl, fun b hb => by simp only [locBlks, PArg.blk, List.append_nil, List.mem_singleton] at hb; rw [hb]⟩
    · exact ⟨rfl, fun b hb => by simp [locBlks, PArg.blk] at hb⟩
    )
  (fun ps r e p cap h hp hi => by
    unfold specZ at h
    split at h <;> cases h
    · rename_i s vs n ty
      obtain ⟨p1, p2, _⟩ := hp
      subst p2
      rw [p1, hV]
      exact z.run (cap 0) ty
    · rename_i a
      rw [hV]
      exact n.run a
    )
end val
namespace rvl
noncomputable abbrev fn := Tryd.f6
noncomputable def body : Code := bodyOf fn
namespace w
noncomputable def Γ : Cons Tryd.prog GT := [rdv.con, rtx.conP, S3.r256_con]
def m (l : List B32) (n c : Nat) (ty : TypeId) (h : B32) : List Blk := [⟨false, ty, .prv (wvals l)⟩] ++ [⟨true, 24, .lit (cB32.row h)⟩]
def M (l : List B32) (n c : Nat) (ty : TypeId) (e : Int) : List (Option SV) := maskL 11 0 [(2, .o (.a (.ptr 1 0))), (3, .o (.a (int1 .i64 e)))]
theorem i (l : List B32) (n c : Nat) (ty : TypeId) (h : B32) (e : Int) : idsIn (m l n c ty h).length (M l n c ty e) (m l n c ty h) = true := by kernel_rfl
theorem zr (l : List B32) (n c : Nat) (ty : TypeId) (h : B32) (e : Int) (g : Nat → SV) : eRes tys (fill g 0 (M l n c ty e)) (fun k => (m l n c ty h)[k]?) fn.results.toList = some [.g (cB32.row h), .a (int1 .i64 e)] := by kernel_rfl
theorem t (l : List B32) (n c : Nat) (ty : TypeId) (h : B32) : outN [0, 1] (M l n c ty 0) (exec Γ tys 100 body ⟨startT fn [.o (.a (.sld 0 0 0 n c))], ([⟨false, ty, .prv (wvals l)⟩] : List Blk), [(5, [.s (cBool.enc true)]), (10, [.s (cB32.enc h)])]⟩) = some (.ret, (live (M l n c ty 0)).map (SV.ren (piF [0, 1])), (M l n c ty 0).length, (m l n c ty h).map (fun b => some (b.ren (piF [0, 1]))), [0 + 0 + n * 32 ≤ (wvals l).length, n ≤ c, ((wvals l).drop (0 + 0)).take (n * 32) = wvals (bvDec (((wvals l).drop (0 + 0)).take (n * 32))), (bvDec (((wvals l).drop (0 + 0)).take (n * 32))).length = n, n ≤ 4398046510976, AllB (bvDec (((wvals l).drop (0 + 0)).take (n * 32))), cBool.enc (devV (bvDec (((wvals l).drop (0 + 0)).take (n * 32)))) = cBool.enc true, 0 + 0 + n * 32 ≤ (wvals l).length, n ≤ c, ((wvals l).drop (0 + 0)).take (n * 32) = wvals (bvDec (((wvals l).drop (0 + 0)).take (n * 32))), (bvDec (((wvals l).drop (0 + 0)).take (n * 32))).length = n, n ≤ 8, 0 < n, 0 + encT [devW, flatB (bvDec (((wvals l).drop (0 + 0)).take (n * 32)))] ≤ (encB [devW, flatB (bvDec (((wvals l).drop (0 + 0)).take (n * 32)))]).length, encT [devW, flatB (bvDec (((wvals l).drop (0 + 0)).take (n * 32)))] ≤ encT [devW, flatB (bvDec (((wvals l).drop (0 + 0)).take (n * 32)))], encT [devW, flatB (bvDec (((wvals l).drop (0 + 0)).take (n * 32)))] ≤ 140737488354000, ∀ y ∈ ((encB [devW, flatB (bvDec (((wvals l).drop (0 + 0)).take (n * 32)))]).drop 0).take (encT [devW, flatB (bvDec (((wvals l).drop (0 + 0)).take (n * 32)))]), S3.Byt y, cB32.enc (S3.refB (((encB [devW, flatB (bvDec (((wvals l).drop (0 + 0)).take (n * 32)))]).drop 0).take (encT [devW, flatB (bvDec (((wvals l).drop (0 + 0)).take (n * 32)))]))) = cB32.enc h]) := by kernel_rfl
theorem f (l : List B32) (n c : Nat) (ty : TypeId) : outN [0, 1] (M l n c ty 1) (exec Γ tys 100 body ⟨startT fn [.o (.a (.sld 0 0 0 n c))], ([⟨false, ty, .prv (wvals l)⟩] : List Blk), [(5, [.s (cBool.enc false)])]⟩) = some (.ret, (live (M l n c ty 1)).map (SV.ren (piF [0, 1])), (M l n c ty 1).length, (m l n c ty zB).map (fun b => some (b.ren (piF [0, 1]))), [0 + 0 + n * 32 ≤ (wvals l).length, n ≤ c, ((wvals l).drop (0 + 0)).take (n * 32) = wvals (bvDec (((wvals l).drop (0 + 0)).take (n * 32))), (bvDec (((wvals l).drop (0 + 0)).take (n * 32))).length = n, n ≤ 4398046510976, AllB (bvDec (((wvals l).drop (0 + 0)).take (n * 32))), cBool.enc (devV (bvDec (((wvals l).drop (0 + 0)).take (n * 32)))) = cBool.enc false]) := by kernel_rfl
theorem run (l : List B32) (n c : Nat) (ty : TypeId) (hn : l.length = n) (hc : n ≤ c) (hb : n ≤ 4398046510976) (h0 : 0 < n) (hok : AllB l) : RunsF Tryd.prog GT 1 body (startT fn [.o (.a (.sld 0 0 0 n c))]) [⟨false, ty, .prv (wvals l)⟩] (EndsM tys fn (endsQ (vS (valV l)) .none)) := by
  have dY : ((wvals l).drop (0 + 0)).take (n * 32) = wvals l := by rw [Nat.add_zero, List.drop_zero, List.take_of_length_le (by rw [wvals_len]; omega)]
  have hl : (wvals l).length = n * 32 := by rw [wvals_len, hn]
  have hf : (flatB l).length = n * 32 := by rw [flatB_len, hn]
  cases hd : devV l with
  | false =>
    rw [val_f hd]
    have q := f l n c ty
    rw [dY, bvDec_vals] at q
    exact Runs.of_outN tys_ok mixed [0, 1] q ⟨by omega, hc, rfl, hn, hb, hok, by rw [hd], trivial⟩ (i l n c ty _ _) rfl fun g => EndsM.ret (zr l n c ty _ _ g) rfl
  | true =>
    have h8 := dev_le hd
    have hE : encT [devW, flatB l] = 19 + n * 32 := by simp only [encT, encL, hf]; rw [show devW.length = 7 from rfl]; omega
    rw [val_t hd]
    have q := t l n c ty (shaW (encB [devW, flatB l]))
    rw [dY, bvDec_vals, all_w (encB [devW, flatB l]) (encB_len _)] at q
    exact Runs.of_outN tys_ok mixed [0, 1] q ⟨by omega, hc, rfl, hn, hb, hok, by rw [hd], by omega, hc, rfl, hn, by omega, h0, by rw [encB_len]; omega, Nat.le_refl _, by omega, txt_byt hok, by rw [← S3.ref_eq _ (by rw [encB_len]; omega)]; rfl, trivial⟩ (i l n c ty _ _) rfl fun g => EndsM.ret (zr l n c ty _ _ g) rfl
end w
namespace z
noncomputable def Γ : Cons Tryd.prog GT := [rdv.con, rtx.conZ, S3.r256_con]
def m (c : Nat) (ty : TypeId) (h : B32) : List Blk := [⟨false, ty, .prv (wvals [])⟩] ++ [⟨true, 24, .lit (cB32.row h)⟩]
def M (c : Nat) (ty : TypeId) (e : Int) : List (Option SV) := maskL 11 0 [(2, .o (.a (.ptr 1 0))), (3, .o (.a (int1 .i64 e)))]
theorem i (c : Nat) (ty : TypeId) (h : B32) (e : Int) : idsIn (m c ty h).length (M c ty e) (m c ty h) = true := by kernel_rfl
theorem zr (c : Nat) (ty : TypeId) (h : B32) (e : Int) (g : Nat → SV) : eRes tys (fill g 0 (M c ty e)) (fun k => (m c ty h)[k]?) fn.results.toList = some [.g (cB32.row h), .a (int1 .i64 e)] := by kernel_rfl
theorem t (c : Nat) (ty : TypeId) (h : B32) : outN [0, 1] (M c ty 0) (exec Γ tys 100 body ⟨startT fn [.o (.a (.sld 0 0 0 0 c))], ([⟨false, ty, .prv (wvals [])⟩] : List Blk), [(5, [.s (cBool.enc true)]), (10, [.s (cB32.enc h)])]⟩) = some (.ret, (live (M c ty 0)).map (SV.ren (piF [0, 1])), (M c ty 0).length, (m c ty h).map (fun b => some (b.ren (piF [0, 1]))), [0 + 0 + 0 * 32 ≤ (wvals []).length, 0 ≤ c, ((wvals []).drop (0 + 0)).take (0 * 32) = wvals (bvDec (((wvals []).drop (0 + 0)).take (0 * 32))), (bvDec (((wvals []).drop (0 + 0)).take (0 * 32))).length = 0, 0 ≤ 4398046510976, AllB (bvDec (((wvals []).drop (0 + 0)).take (0 * 32))), cBool.enc (devV (bvDec (((wvals []).drop (0 + 0)).take (0 * 32)))) = cBool.enc true, 0 + 0 + 0 * 32 ≤ (wvals []).length, 0 ≤ c, ((wvals []).drop (0 + 0)).take (0 * 32) = wvals [], 0 = 0, 0 + encT [devW, []] ≤ (encB [devW, []]).length, encT [devW, []] ≤ encT [devW, []], encT [devW, []] ≤ 140737488354000, ∀ y ∈ ((encB [devW, []]).drop 0).take (encT [devW, []]), S3.Byt y, cB32.enc (S3.refB (((encB [devW, []]).drop 0).take (encT [devW, []]))) = cB32.enc h]) := by kernel_rfl
theorem run (c : Nat) (ty : TypeId) : RunsF Tryd.prog GT 1 body (startT fn [.o (.a (.sld 0 0 0 0 c))]) [⟨false, ty, .prv (wvals [])⟩] (EndsM tys fn (endsQ (vS (valV [])) .none)) := by
  have hE : encT [devW, []] = 19 := rfl
  rw [val_t (l := []) rfl, show flatB [] = [] from rfl]
  have q := t c ty (shaW (encB [devW, []]))
  rw [all_w (encB [devW, []]) (encB_len _)] at q
  exact Runs.of_outN tys_ok mixed [0, 1] q ⟨by decide, Nat.zero_le _, by rw [show ((wvals []).drop (0 + 0)).take (0 * 32) = wvals [] from rfl, bvDec_vals], (by rw [show bvDec (((wvals []).drop (0 + 0)).take (0 * 32)) = [] from bvDec_vals []]; rfl), by decide, (by rw [show bvDec (((wvals []).drop (0 + 0)).take (0 * 32)) = [] from bvDec_vals []]; exact allNilB), (by rw [show bvDec (((wvals []).drop (0 + 0)).take (0 * 32)) = [] from bvDec_vals []]; rfl), by decide, Nat.zero_le _, rfl, rfl, by rw [encB_len]; omega, Nat.le_refl _, by omega, txt_byt (l := []) allNilB, by rw [← S3.ref_eq _ (by rw [encB_len]; omega)]; rfl, trivial⟩ (i c ty _ _) rfl fun g => EndsM.ret (zr c ty _ _ g) rfl
end z
namespace n
noncomputable def Γ : Cons Tryd.prog GT := [rdv.con, rtx.conZ, S3.r256_con]
def m (a : Option Addr) (h : B32) : List Blk := [] ++ [⟨true, 24, .lit (cB32.row h)⟩]
def M (a : Option Addr) (e : Int) : List (Option SV) := maskL 11 0 [(2, .o (.a (.ptr 0 0))), (3, .o (.a (int1 .i64 e)))]
theorem i (a : Option Addr) (h : B32) (e : Int) : idsIn (m a h).length (M a e) (m a h) = true := by kernel_rfl
theorem zr (a : Option Addr) (h : B32) (e : Int) (g : Nat → SV) : eRes tys (fill g 0 (M a e)) (fun k => (m a h)[k]?) fn.results.toList = some [.g (cB32.row h), .a (int1 .i64 e)] := by kernel_rfl
theorem t (a : Option Addr) (h : B32) : outN [0] (M a 0) (exec Γ tys 100 body ⟨startT fn [.o (.a (.v (.slice a 0 0)))], ([] : List Blk), [(5, [.s (cBool.enc true)]), (10, [.s (cB32.enc h)])]⟩) = some (.ret, (live (M a 0)).map (SV.ren (piF [0])), (M a 0).length, (m a h).map (fun b => some (b.ren (piF [0]))), [cBool.enc true = cBool.enc true, 0 + encT [devW, []] ≤ (encB [devW, []]).length, encT [devW, []] ≤ encT [devW, []], encT [devW, []] ≤ 140737488354000, ∀ y ∈ ((encB [devW, []]).drop 0).take (encT [devW, []]), S3.Byt y, cB32.enc (S3.refB (((encB [devW, []]).drop 0).take (encT [devW, []]))) = cB32.enc h]) := by kernel_rfl
theorem run (a : Option Addr) : RunsF Tryd.prog GT 0 body (startT fn [.o (.a (.v (.slice a 0 0)))]) [] (EndsM tys fn (endsQ (vS (valV [])) .none)) := by
  have hE : encT [devW, []] = 19 := rfl
  rw [val_t (l := []) rfl, show flatB [] = [] from rfl]
  have q := t a (shaW (encB [devW, []]))
  rw [all_w (encB [devW, []]) (encB_len _)] at q
  exact Runs.of_outN tys_ok mixed [0] q ⟨rfl, by rw [encB_len]; omega, Nat.le_refl _, by omega, txt_byt (l := []) allNilB, by rw [← S3.ref_eq _ (by rw [encB_len]; omega)]; rfl, trivial⟩ (i a _ _) rfl fun g => EndsM.ret (zr a _ _ g) rfl
end n
noncomputable def specP (V : List B32 → B32 × Int) : List PArg → Option (SV × LEff × Cst)
  | [.winv _ vs n ty] => some (resSV [.g (cB32.row (V (bvDec vs)).1), .a (int1 .i64 (V (bvDec vs)).2)], .none, [vs = wvals (bvDec vs), (bvDec vs).length = n, n ≤ 4398046510976, AllB (bvDec vs), 0 < n])
  | _ => none
noncomputable def conP (V : List B32 → B32 × Int) (hV : V = valV) : Con Tryd.prog GT := Con.parts tys_ok 6 fn Tryd.func6 (by kernel_rfl) (c := body) (by kernel_rfl) [.winv 32] (specP V)
  (fun ps r e p h hp => by
    unfold specP at h
    split at h <;> cases h
    exact ⟨rfl, fun b hb => by simp only [locBlks, PArg.blk, List.append_nil, List.mem_singleton] at hb; rw [hb]⟩
    )
  (fun ps r e p cap h hp hi => by
    unfold specP at h
    split at h <;> cases h
    rename_i s vs n ty
    obtain ⟨p1, p2, p3, p4, p5, _⟩ := hp
    have q := w.run (bvDec vs) n (cap 0) ty p2 hi.1.2 p3 p5 p4
    rw [← p1] at q
    rw [hV]
    exact q
    )
noncomputable def specZ (V : List B32 → B32 × Int) : List PArg → Option (SV × LEff × Cst)
  | [.winv _ vs n ty] => some (resSV [.g (cB32.row (V []).1), .a (int1 .i64 (V []).2)], .none, [vs = wvals [], n = 0])
  | [.val (.o (.a (.v (.slice a 0 0))))] => some (resSV [.g (cB32.row (V []).1), .a (int1 .i64 (V []).2)], .none, [])
  | _ => none
noncomputable def conZ (V : List B32 → B32 × Int) (hV : V = valV) : Con Tryd.prog GT := Con.parts tys_ok 6 fn Tryd.func6 (by kernel_rfl) (c := body) (by kernel_rfl) [.winv 32] (specZ V)
  (fun ps r e p h hp => by
    unfold specZ at h
    split at h <;> cases h
    · exact ⟨rfl, fun b hb => by simp only [locBlks, PArg.blk, List.append_nil, List.mem_singleton] at hb; rw [hb]⟩
    · exact ⟨rfl, fun b hb => by simp [locBlks, PArg.blk] at hb⟩
    )
  (fun ps r e p cap h hp hi => by
    unfold specZ at h
    split at h <;> cases h
    · rename_i s vs n ty
      obtain ⟨p1, p2, _⟩ := hp
      subst p2
      rw [p1, hV]
      exact z.run (cap 0) ty
    · rename_i a
      rw [hV]
      exact n.run a
    )
end rvl
namespace mrk
noncomputable abbrev fn := Tryd.f7
noncomputable def body : Code := bodyOf fn
noncomputable def Γ : Cons Tryd.prog GT := [enc.k1.con, S3.s256_con]
def m (h : B32) : List Blk := [⟨true, 24, .lit (cB32.row h)⟩]
def M : List (Option SV) := maskL 12 0 [(0, .o (.a (.ptr 0 0)))]
theorem i (h : B32) : idsIn (m h).length (M) (m h) = true := by kernel_rfl
theorem zr (h : B32) (g : Nat → SV) : eRes tys (fill g 0 M) (fun k => (m h)[k]?) fn.results.toList = some [.g (cB32.row h)] := by kernel_rfl
theorem s (h : B32) : outN [0] (M) (exec Γ tys 100 body ⟨startT fn [], ([] : List Blk), [(11, [.s (cB32.enc h)])]⟩) = some (.ret, (live (M)).map (SV.ren (piF [0])), (M).length, (m h).map (fun b => some (b.ren (piF [0]))), [5 ≤ 5, encT [staW] ≤ 1048576, 0 + encT [staW] ≤ (encB [staW]).length, encT [staW] ≤ encT [staW], cB32.enc (S3.finB (S3.absorb S3.S0 (((encB [staW]).drop 0).take (encT [staW])))) = cB32.enc h]) := by kernel_rfl
theorem run : RunsF Tryd.prog GT 0 body (startT fn []) [] (EndsM tys fn (endsQ (cB32.enc (shaW (encB [staW]))) .none)) := by
  have q := s (shaW (encB [staW]))
  rw [all_w (encB [staW]) (encB_len _)] at q
  exact Runs.of_outN tys_ok mixed [0] q ⟨by decide, by decide, by rw [encB_len]; decide, Nat.le_refl _, rfl, trivial⟩ (i _) rfl fun g => EndsM.ret (zr _ g) rfl
def spec (K : B32) : List PArg → Option (SV × LEff × Cst)
  | [] => some (cB32.enc K, .none, [])
  | _ => none
noncomputable def con (K : B32) (hK : K = shaW (encB [staW])) : Con Tryd.prog GT := Con.parts tys_ok 7 fn Tryd.func7 (by kernel_rfl) (c := body) (by kernel_rfl) [] (spec K)
  (fun ps r e p h hp => by
    unfold spec at h
    split at h <;> cases h
    exact ⟨cB32.ids _, fun b hb => by simp [locBlks] at hb⟩)
  (fun ps r e p cap h hp hi => by
    unfold spec at h
    split at h <;> cases h
    rw [hK]
    exact run)
end mrk
namespace rmk
noncomputable abbrev fn := Tryd.f8
noncomputable def body : Code := bodyOf fn
noncomputable def Γ : Cons Tryd.prog GT := [renc.k1.con, S3.r256_con]
def m (h : B32) : List Blk := [⟨true, 24, .lit (cB32.row h)⟩]
def M : List (Option SV) := maskL 12 0 [(0, .o (.a (.ptr 0 0)))]
theorem i (h : B32) : idsIn (m h).length (M) (m h) = true := by kernel_rfl
theorem zr (h : B32) (g : Nat → SV) : eRes tys (fill g 0 M) (fun k => (m h)[k]?) fn.results.toList = some [.g (cB32.row h)] := by kernel_rfl
theorem s (h : B32) : outN [0] (M) (exec Γ tys 100 body ⟨startT fn [], ([] : List Blk), [(11, [.s (cB32.enc h)])]⟩) = some (.ret, (live (M)).map (SV.ren (piF [0])), (M).length, (m h).map (fun b => some (b.ren (piF [0]))), [5 ≤ 5, encT [staW] ≤ 1048576, 0 + encT [staW] ≤ (encB [staW]).length, encT [staW] ≤ encT [staW], encT [staW] ≤ 140737488354000, ∀ y ∈ ((encB [staW]).drop 0).take (encT [staW]), S3.Byt y, cB32.enc (S3.refB (((encB [staW]).drop 0).take (encT [staW]))) = cB32.enc h]) := by kernel_rfl
theorem run : RunsF Tryd.prog GT 0 body (startT fn []) [] (EndsM tys fn (endsQ (cB32.enc (shaW (encB [staW]))) .none)) := by
  have q := s (shaW (encB [staW]))
  rw [all_w (encB [staW]) (encB_len _)] at q
  exact Runs.of_outN tys_ok mixed [0] q ⟨by decide, by decide, by rw [encB_len]; decide, Nat.le_refl _, by decide, encB_bw (fun l hl y hy => by simp only [List.mem_cons, List.not_mem_nil, or_false] at hl; subst hl; exact staW_byt y hy), by rw [← S3.ref_eq _ (by rw [encB_len]; decide)]; rfl, trivial⟩ (i _) rfl fun g => EndsM.ret (zr _ g) rfl
def spec (K : B32) : List PArg → Option (SV × LEff × Cst)
  | [] => some (cB32.enc K, .none, [])
  | _ => none
noncomputable def con (K : B32) (hK : K = shaW (encB [staW])) : Con Tryd.prog GT := Con.parts tys_ok 8 fn Tryd.func8 (by kernel_rfl) (c := body) (by kernel_rfl) [] (spec K)
  (fun ps r e p h hp => by
    unfold spec at h
    split at h <;> cases h
    exact ⟨cB32.ids _, fun b hb => by simp [locBlks] at hb⟩)
  (fun ps r e p cap h hp hi => by
    unfold spec at h
    split at h <;> cases h
    rw [hK]
    exact run)
end rmk
end Go.Proofs.YthlmepolmemejaaDoor

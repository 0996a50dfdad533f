/- Packages tree, beaconref11: the node over nodes: recursive walks, contracts of both sides. -/
import Derived.Test.YtdccehmekkcheaaDoorTTrS
namespace Go.Proofs.YtdccehmekkcheaaDoor
open Go Go.Eng Go.RowKit
set_option linter.unusedVariables false
set_option linter.unusedSimpArgs false
set_option maxRecDepth 100000
noncomputable def hV (a b : Nd) : B32 := shaV (innB a b)
theorem hV_ok (a b : Nd) : BOk (hV a b) := sha_ok _
namespace tjn
noncomputable abbrev fn := Tryd.f60
noncomputable def body : Code := bodyOf fn
def IH (H : Nd → Nd → B32) (N : Nat) : Prop := ∀ (l : List Nd) (n c : Nat) (ty : TypeId), l.length = n → n < N → 1 ≤ n → n ≤ c → AllOk l → apartV l = true →
  RunsF Tryd.prog GT 1 body (startT fn [.o (.a (.sld 0 0 0 n c))]) [⟨false, ty, .prv (nvals l)⟩] (EndsM tys fn (endsQ (cNd.enc (joinV H l)) .none))
def spec (H : Nd → Nd → B32) (N : Nat) : List PArg → Option (SV × LEff × Cst)
  | [.winv _ vs n ty] => some (cNd.enc (joinV H (ndDec vs)), .none, [vs = nvals (ndDec vs), (ndDec vs).length = n, n < N, 1 ≤ n, AllOk (ndDec vs), apartV (ndDec vs) = true])
  | _ => none
noncomputable def con (H : Nd → Nd → B32) (N : Nat) (ih : IH H N) : Con Tryd.prog GT := Con.parts tys_ok 60 fn Tryd.func60 (by kernel_rfl) (c := body) (by kernel_rfl) [.winv 65] (spec H N)
  (fun ps r e p h hp => by
    unfold spec at h
    split at h <;> cases h
    exact ⟨rfl, fun b hb => by simp only [locBlks, PArg.blk, List.append_nil, List.nil_append, List.mem_singleton] at hb; rw [hb]⟩)
  (fun ps r e p cap h hp hi => by
    unfold spec at h
    split at h <;> cases h
    rename_i s vs n ty
    obtain ⟨p1, p2, p3, p4, p5, p6, _⟩ := hp
    obtain ⟨⟨_, hcap⟩, _⟩ := hi
    have q := ih (ndDec vs) n (cap 0) ty p2 p3 p4 hcap p5 p6
    rw [← p1] at q
    exact q)
noncomputable def Γ (H : Nd → Nd → B32) (N : Nat) (ih : IH H N) : Cons Tryd.prog GT := [con H N ih, spl.con, tfst.con, tinn.con, S3.s256_con]
def M : List (Option SV) := maskL 32 0 [(2, .o (.a (.ptr 1 0)))]
def mem (l : List Nd) (ty : TypeId) (z : Nd) : List Blk := [⟨false, ty, .prv (nvals l)⟩, ⟨true, 33, .lit z.row⟩]
theorem ids (l : List Nd) (ty : TypeId) (z : Nd) : idsIn (mem l ty z).length M (mem l ty z) = true := by kernel_rfl
theorem one (H : Nd → Nd → B32) (N : Nat) (ih : IH H N) (l : List Nd) (n c : Nat) (ty : TypeId) (x : Nd) : outX (mem l ty x).length (M) (exec (Γ H N ih) tys 100 body ⟨startT fn [.o (.a (.sld 0 0 0 n c))], [⟨false, ty, .prv (nvals l)⟩], [(8, [.b true]), (11, [.ds (cNd.enc x)])]⟩) = some (.ret, live (M), (M).length, mem l ty x, [((n : Int) == 1) = true, 0 ≤ (0 : Int), (0 : Int) < n, 0 + offI 0 (0 : Int) 65 + 65 ≤ (nvals l).length, SV.o (.g (takeV (nvals l) (0 + offI 0 (0 : Int) 65) 65)) = cNd.enc x]) := by kernel_rfl
theorem two (H : Nd → Nd → B32) (N : Nat) (ih : IH H N) (l : List Nd) (n c : Nat) (ty : TypeId) (k o : Nat) (v : Int) (a f h : B32) (x y : Nd) : outX (mem l ty ⟨v, f, h⟩).length (M) (exec (Γ H N ih) tys 100 body ⟨startT fn [.o (.a (.sld 0 0 0 n c))], [⟨false, ty, .prv (nvals l)⟩], [(8, [.b false]), (14, [.s (.t [.a (.sld 0 0 0 k c), .a (.sld 0 0 o (n - k) (c - k)), .a (int1 .i64 v)])]), (22, [.ds (cB32.enc a)]), (24, [.s (cB32.enc f)]), (26, [.s (cNd.enc x)]), (28, [.s (cNd.enc y)]), (30, [.s (cB32.enc h)])]⟩) = some (.ret, live (M), (M).length, mem l ty ⟨v, f, h⟩, [((n : Int) == 1) = false, 0 + 0 + n * 65 ≤ (nvals l).length, n ≤ c, ((nvals l).drop (0 + 0)).take (n * 65) = nvals (ndDec (((nvals l).drop (0 + 0)).take (n * 65))), (ndDec (((nvals l).drop (0 + 0)).take (n * 65))).length = n, n < boundN, 2 ≤ n, AllOk (ndDec (((nvals l).drop (0 + 0)).take (n * 65))), apartV (ndDec (((nvals l).drop (0 + 0)).take (n * 65))) = true, SV.t [.a (.sld 0 0 0 (splK (ndDec (((nvals l).drop (0 + 0)).take (n * 65))) (topC (ndDec (((nvals l).drop (0 + 0)).take (n * 65))))) c), .a (.sld 0 0 (0 + (0 + (splK (ndDec (((nvals l).drop (0 + 0)).take (n * 65))) (topC (ndDec (((nvals l).drop (0 + 0)).take (n * 65))))) * 65)) (n - (splK (ndDec (((nvals l).drop (0 + 0)).take (n * 65))) (topC (ndDec (((nvals l).drop (0 + 0)).take (n * 65)))))) (c - (splK (ndDec (((nvals l).drop (0 + 0)).take (n * 65))) (topC (ndDec (((nvals l).drop (0 + 0)).take (n * 65))))))), .a (int1 .i64 (topC (ndDec (((nvals l).drop (0 + 0)).take (n * 65))) : Nat))] = SV.t [.a (.sld 0 0 0 k c), .a (.sld 0 0 o (n - k) (c - k)), .a (int1 .i64 v)], 0 ≤ (0 : Int), (0 : Int) < n, 0 + (offI 0 (0 : Int) 65 + 1) + 32 ≤ (nvals l).length, SV.o (.g (takeV (nvals l) (0 + (offI 0 (0 : Int) 65 + 1)) 32)) = cB32.enc a, BOk a, 0 ≤ v, v ≤ 256, cB32.enc (fstV a v.toNat) = cB32.enc f, 0 + 0 + k * 65 ≤ (nvals l).length, k ≤ c, ((nvals l).drop (0 + 0)).take (k * 65) = nvals (ndDec (((nvals l).drop (0 + 0)).take (k * 65))), (ndDec (((nvals l).drop (0 + 0)).take (k * 65))).length = k, k < N, 1 ≤ k, AllOk (ndDec (((nvals l).drop (0 + 0)).take (k * 65))), apartV (ndDec (((nvals l).drop (0 + 0)).take (k * 65))) = true, cNd.enc (joinV H (ndDec (((nvals l).drop (0 + 0)).take (k * 65)))) = cNd.enc x, 0 + o + (n - k) * 65 ≤ (nvals l).length, (n - k) ≤ (c - k), ((nvals l).drop (0 + o)).take ((n - k) * 65) = nvals (ndDec (((nvals l).drop (0 + o)).take ((n - k) * 65))), (ndDec (((nvals l).drop (0 + o)).take ((n - k) * 65))).length = (n - k), (n - k) < N, 1 ≤ (n - k), AllOk (ndDec (((nvals l).drop (0 + o)).take ((n - k) * 65))), apartV (ndDec (((nvals l).drop (0 + o)).take ((n - k) * 65))) = true, cNd.enc (joinV H (ndDec (((nvals l).drop (0 + o)).take ((n - k) * 65)))) = cNd.enc y, 0 + 133 ≤ 133, 133 ≤ 133, cB32.enc (S3.finB (S3.absorb S3.S0 (((innB x y).drop 0).take 133))) = cB32.enc h]) := by kernel_rfl
theorem zr (l : List Nd) (ty : TypeId) (z : Nd) (g : Nat → SV) : eRes tys (fill g 0 M) (fun k => (mem l ty z)[k]?) fn.results.toList = some [.g z.row] := by kernel_rfl
end tjn
namespace rov
noncomputable abbrev fn := Tryd.f65
noncomputable def body : Code := bodyOf fn
def IH (H : Nd → Nd → B32) (N : Nat) : Prop := ∀ (l : List Nd) (n c : Nat) (ty : TypeId), l.length = n → n < N → 1 ≤ n → n ≤ c → AllOk l → apartV l = true →
  RunsF Tryd.prog GT 1 body (startT fn [.o (.a (.sld 0 0 0 n c))]) [⟨false, ty, .prv (nvals l)⟩] (EndsM tys fn (endsQ (cNd.enc (joinV H l)) .none))
def spec (H : Nd → Nd → B32) (N : Nat) : List PArg → Option (SV × LEff × Cst)
  | [.winv _ vs n ty] => some (cNd.enc (joinV H (ndDec vs)), .none, [vs = nvals (ndDec vs), (ndDec vs).length = n, n < N, 1 ≤ n, AllOk (ndDec vs), apartV (ndDec vs) = true])
  | _ => none
noncomputable def con (H : Nd → Nd → B32) (N : Nat) (ih : IH H N) : Con Tryd.prog GT := Con.parts tys_ok 65 fn Tryd.func65 (by kernel_rfl) (c := body) (by kernel_rfl) [.winv 65] (spec H N)
  (fun ps r e p h hp => by
    unfold spec at h
    split at h <;> cases h
    exact ⟨rfl, fun b hb => by simp only [locBlks, PArg.blk, List.append_nil, List.nil_append, List.mem_singleton] at hb; rw [hb]⟩)
  (fun ps r e p cap h hp hi => by
    unfold spec at h
    split at h <;> cases h
    rename_i s vs n ty
    obtain ⟨p1, p2, p3, p4, p5, p6, _⟩ := hp
    obtain ⟨⟨_, hcap⟩, _⟩ := hi
    have q := ih (ndDec vs) n (cap 0) ty p2 p3 p4 hcap p5 p6
    rw [← p1] at q
    exact q)
noncomputable def Γ (H : Nd → Nd → B32) (N : Nat) (ih : IH H N) : Cons Tryd.prog GT := [con H N ih, rcom.con, hlv.con, rfst.con, rinn.con, S3.r256_con]
def M : List (Option SV) := maskL 45 0 [(2, .o (.a (.ptr 1 0)))]
def mem (l : List Nd) (ty : TypeId) (z : Nd) : List Blk := [⟨false, ty, .prv (nvals l)⟩, ⟨true, 33, .lit z.row⟩]
theorem ids (l : List Nd) (ty : TypeId) (z : Nd) : idsIn (mem l ty z).length M (mem l ty z) = true := by kernel_rfl
theorem one (H : Nd → Nd → B32) (N : Nat) (ih : IH H N) (l : List Nd) (n c : Nat) (ty : TypeId) (x : Nd) : outX (mem l ty x).length (M) (exec (Γ H N ih) tys 100 body ⟨startT fn [.o (.a (.sld 0 0 0 n c))], [⟨false, ty, .prv (nvals l)⟩], [(10, [.b true]), (13, [.ds (cNd.enc x)])]⟩) = some (.ret, live (M), (M).length, mem l ty x, [((n : Int) == 1) = true, 0 ≤ (0 : Int), (0 : Int) < n, 0 + offI 0 (0 : Int) 65 + 65 ≤ (nvals l).length, SV.o (.g (takeV (nvals l) (0 + offI 0 (0 : Int) 65) 65)) = cNd.enc x]) := by kernel_rfl
theorem two (H : Nd → Nd → B32) (N : Nat) (ih : IH H N) (l : List Nd) (n c : Nat) (ty : TypeId) (k o : Nat) (m v : Int) (a b f h : B32) (x y : Nd) : outX (mem l ty ⟨v, f, h⟩).length (M) (exec (Γ H N ih) tys 100 body ⟨startT fn [.o (.a (.sld 0 0 0 n c))], [⟨false, ty, .prv (nvals l)⟩], [(10, [.b false]), (17, [.ds (cB32.enc a)]), (21, [.n m]), (24, [.ds (cB32.enc b)]), (27, [.s (.o (.a (int1 .i64 v)))]), (31, [.s (.t [.a (.sld 0 0 0 k c), .a (.sld 0 0 o (n - k) (c - k))])]), (37, [.s (cB32.enc f)]), (39, [.s (cNd.enc x)]), (41, [.s (cNd.enc y)]), (43, [.s (cB32.enc h)])]⟩) = some (.ret, live (M), (M).length, mem l ty ⟨v, f, h⟩, [((n : Int) == 1) = false, 0 ≤ (0 : Int), (0 : Int) < n, 0 + (offI 0 (0 : Int) 65 + 1) + 32 ≤ (nvals l).length, SV.o (.g (takeV (nvals l) (0 + (offI 0 (0 : Int) 65 + 1)) 32)) = cB32.enc a, IntKind.i64.wrap ((n : Int) - 1) = m, 0 ≤ m, m < n, 0 + (offI 0 m 65 + 1) + 32 ≤ (nvals l).length, SV.o (.g (takeV (nvals l) (0 + (offI 0 m 65 + 1)) 32)) = cB32.enc b, BOk a, BOk b, 0 ≤ (256 : Int), (256 : Int) ≤ 256, (cInt .i64).enc ((min (256 : Int).toNat (comV a b) : Nat) : Int) = (cInt .i64).enc v, 0 + 0 + n * 65 ≤ (nvals l).length, n ≤ c, ((nvals l).drop (0 + 0)).take (n * 65) = nvals (ndDec (((nvals l).drop (0 + 0)).take (n * 65))), (ndDec (((nvals l).drop (0 + 0)).take (n * 65))).length = n, n < boundN, 0 ≤ v, v < 256, AllOk (ndDec (((nvals l).drop (0 + 0)).take (n * 65))), MonoB (ndDec (((nvals l).drop (0 + 0)).take (n * 65))) v.toNat (splK (ndDec (((nvals l).drop (0 + 0)).take (n * 65))) v.toNat), (splK (ndDec (((nvals l).drop (0 + 0)).take (n * 65))) v.toNat) < n, SV.t [.a (.sld 0 0 0 (splK (ndDec (((nvals l).drop (0 + 0)).take (n * 65))) v.toNat) c), .a (.sld 0 0 (0 + (0 + (splK (ndDec (((nvals l).drop (0 + 0)).take (n * 65))) v.toNat) * 65)) (n - (splK (ndDec (((nvals l).drop (0 + 0)).take (n * 65))) v.toNat)) (c - (splK (ndDec (((nvals l).drop (0 + 0)).take (n * 65))) v.toNat)))] = SV.t [.a (.sld 0 0 0 k c), .a (.sld 0 0 o (n - k) (c - k))], BOk a, 0 ≤ v, v ≤ 256, cB32.enc (fstV a v.toNat) = cB32.enc f, 0 + 0 + k * 65 ≤ (nvals l).length, k ≤ c, ((nvals l).drop (0 + 0)).take (k * 65) = nvals (ndDec (((nvals l).drop (0 + 0)).take (k * 65))), (ndDec (((nvals l).drop (0 + 0)).take (k * 65))).length = k, k < N, 1 ≤ k, AllOk (ndDec (((nvals l).drop (0 + 0)).take (k * 65))), apartV (ndDec (((nvals l).drop (0 + 0)).take (k * 65))) = true, cNd.enc (joinV H (ndDec (((nvals l).drop (0 + 0)).take (k * 65)))) = cNd.enc x, 0 + o + (n - k) * 65 ≤ (nvals l).length, (n - k) ≤ (c - k), ((nvals l).drop (0 + o)).take ((n - k) * 65) = nvals (ndDec (((nvals l).drop (0 + o)).take ((n - k) * 65))), (ndDec (((nvals l).drop (0 + o)).take ((n - k) * 65))).length = (n - k), (n - k) < N, 1 ≤ (n - k), AllOk (ndDec (((nvals l).drop (0 + o)).take ((n - k) * 65))), apartV (ndDec (((nvals l).drop (0 + o)).take ((n - k) * 65))) = true, cNd.enc (joinV H (ndDec (((nvals l).drop (0 + o)).take ((n - k) * 65)))) = cNd.enc y, 0 + 133 ≤ 133, 133 ≤ 133, 133 ≤ 140737488354000, ∀ z ∈ ((innB x y).drop 0).take 133, S3.Byt z, cB32.enc (S3.refB (((innB x y).drop 0).take 133)) = cB32.enc h]) := by kernel_rfl
theorem zr (l : List Nd) (ty : TypeId) (z : Nd) (g : Nat → SV) : eRes tys (fill g 0 M) (fun k => (mem l ty z)[k]?) fn.results.toList = some [.g z.row] := by kernel_rfl
end rov
end Go.Proofs.YtdccehmekkcheaaDoor

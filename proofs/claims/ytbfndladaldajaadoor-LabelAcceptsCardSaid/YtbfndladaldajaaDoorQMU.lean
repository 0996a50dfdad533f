/- Package vrf: what a proof is made of, and its output: walks, contracts. -/
import Derived.Test.YtbfndladaldajaaDoorQMV
import Derived.Test.YtbfndladaldajaaDoorQMA
namespace Go.Proofs.YtbfndladaldajaaDoor
open Go Go.Eng Go.RowKit
set_option linter.unusedVariables false
set_option linter.unusedSimpArgs false
set_option maxRecDepth 100000
structure B80 where
  b0 : Int
  b1 : Int
  b2 : Int
  b3 : Int
  b4 : Int
  b5 : Int
  b6 : Int
  b7 : Int
  b8 : Int
  b9 : Int
  b10 : Int
  b11 : Int
  b12 : Int
  b13 : Int
  b14 : Int
  b15 : Int
  b16 : Int
  b17 : Int
  b18 : Int
  b19 : Int
  b20 : Int
  b21 : Int
  b22 : Int
  b23 : Int
  b24 : Int
  b25 : Int
  b26 : Int
  b27 : Int
  b28 : Int
  b29 : Int
  b30 : Int
  b31 : Int
  b32 : Int
  b33 : Int
  b34 : Int
  b35 : Int
  b36 : Int
  b37 : Int
  b38 : Int
  b39 : Int
  b40 : Int
  b41 : Int
  b42 : Int
  b43 : Int
  b44 : Int
  b45 : Int
  b46 : Int
  b47 : Int
  b48 : Int
  b49 : Int
  b50 : Int
  b51 : Int
  b52 : Int
  b53 : Int
  b54 : Int
  b55 : Int
  b56 : Int
  b57 : Int
  b58 : Int
  b59 : Int
  b60 : Int
  b61 : Int
  b62 : Int
  b63 : Int
  b64 : Int
  b65 : Int
  b66 : Int
  b67 : Int
  b68 : Int
  b69 : Int
  b70 : Int
  b71 : Int
  b72 : Int
  b73 : Int
  b74 : Int
  b75 : Int
  b76 : Int
  b77 : Int
  b78 : Int
  b79 : Int
def B80.to (e : B80) : List Int := e.b0 :: e.b1 :: e.b2 :: e.b3 :: e.b4 :: e.b5 :: e.b6 :: e.b7 :: e.b8 :: e.b9 :: e.b10 :: e.b11 :: e.b12 :: e.b13 :: e.b14 :: e.b15 :: e.b16 :: e.b17 :: e.b18 :: e.b19 :: e.b20 :: e.b21 :: e.b22 :: e.b23 :: e.b24 :: e.b25 :: e.b26 :: e.b27 :: e.b28 :: e.b29 :: e.b30 :: e.b31 :: e.b32 :: e.b33 :: e.b34 :: e.b35 :: e.b36 :: e.b37 :: e.b38 :: e.b39 :: e.b40 :: e.b41 :: e.b42 :: e.b43 :: e.b44 :: e.b45 :: e.b46 :: e.b47 :: e.b48 :: e.b49 :: e.b50 :: e.b51 :: e.b52 :: e.b53 :: e.b54 :: e.b55 :: e.b56 :: e.b57 :: e.b58 :: e.b59 :: e.b60 :: e.b61 :: e.b62 :: e.b63 :: e.b64 :: e.b65 :: e.b66 :: e.b67 :: e.b68 :: e.b69 :: e.b70 :: e.b71 :: e.b72 :: e.b73 :: e.b74 :: e.b75 :: e.b76 :: e.b77 :: e.b78 :: e.b79 :: []
def B80.of : List Int → Option B80
  | a0 :: a1 :: a2 :: a3 :: a4 :: a5 :: a6 :: a7 :: a8 :: a9 :: a10 :: a11 :: a12 :: a13 :: a14 :: a15 :: a16 :: a17 :: a18 :: a19 :: a20 :: a21 :: a22 :: a23 :: a24 :: a25 :: a26 :: a27 :: a28 :: a29 :: a30 :: a31 :: a32 :: a33 :: a34 :: a35 :: a36 :: a37 :: a38 :: a39 :: a40 :: a41 :: a42 :: a43 :: a44 :: a45 :: a46 :: a47 :: a48 :: a49 :: a50 :: a51 :: a52 :: a53 :: a54 :: a55 :: a56 :: a57 :: a58 :: a59 :: a60 :: a61 :: a62 :: a63 :: a64 :: a65 :: a66 :: a67 :: a68 :: a69 :: a70 :: a71 :: a72 :: a73 :: a74 :: a75 :: a76 :: a77 :: a78 :: a79 :: [] => some ⟨a0, a1, a2, a3, a4, a5, a6, a7, a8, a9, a10, a11, a12, a13, a14, a15, a16, a17, a18, a19, a20, a21, a22, a23, a24, a25, a26, a27, a28, a29, a30, a31, a32, a33, a34, a35, a36, a37, a38, a39, a40, a41, a42, a43, a44, a45, a46, a47, a48, a49, a50, a51, a52, a53, a54, a55, a56, a57, a58, a59, a60, a61, a62, a63, a64, a65, a66, a67, a68, a69, a70, a71, a72, a73, a74, a75, a76, a77, a78, a79⟩
  | _ => none
theorem B80.of_to : ∀ l a, B80.of l = some a → B80.to a = l := by
  intro l a h
  unfold B80.of at h
  split at h <;> cases h
  rfl
def cB80 : Cod B80 := cRow .u8 B80.to B80.of B80.of_to
def zeroB80 : B80 := ⟨0, 0, 0, 0, 0, 0, 0, 0, 0, 0, 0, 0, 0, 0, 0, 0, 0, 0, 0, 0, 0, 0, 0, 0, 0, 0, 0, 0, 0, 0, 0, 0, 0, 0, 0, 0, 0, 0, 0, 0, 0, 0, 0, 0, 0, 0, 0, 0, 0, 0, 0, 0, 0, 0, 0, 0, 0, 0, 0, 0, 0, 0, 0, 0, 0, 0, 0, 0, 0, 0, 0, 0, 0, 0, 0, 0, 0, 0, 0, 0⟩
def g80 (D : B80) : B32 := ⟨D.b0, D.b1, D.b2, D.b3, D.b4, D.b5, D.b6, D.b7, D.b8, D.b9, D.b10, D.b11, D.b12, D.b13, D.b14, D.b15, D.b16, D.b17, D.b18, D.b19, D.b20, D.b21, D.b22, D.b23, D.b24, D.b25, D.b26, D.b27, D.b28, D.b29, D.b30, D.b31⟩
def c80 (D : B80) : B32 := ⟨D.b32, D.b33, D.b34, D.b35, D.b36, D.b37, D.b38, D.b39, D.b40, D.b41, D.b42, D.b43, D.b44, D.b45, D.b46, D.b47, 0, 0, 0, 0, 0, 0, 0, 0, 0, 0, 0, 0, 0, 0, 0, 0⟩
def t80 (D : B80) : B32 := ⟨D.b48, D.b49, D.b50, D.b51, D.b52, D.b53, D.b54, D.b55, D.b56, D.b57, D.b58, D.b59, D.b60, D.b61, D.b62, D.b63, D.b64, D.b65, D.b66, D.b67, D.b68, D.b69, D.b70, D.b71, D.b72, D.b73, D.b74, D.b75, D.b76, D.b77, D.b78, D.b79⟩
def B80.Ok (D : B80) : Prop := BOk (g80 D) ∧ BOk (c80 D) ∧ BOk (t80 D)
def parSV (P : P20) (c t : B32) (ok : Bool) : SV := .t [.g (cP.row P), .g (cB32.row c), .g (cB32.row t), .a (bool1 ok)]
noncomputable def okV (D : B80) : Bool := decOk (g80 D) && canV (t80 D)
noncomputable def outV (P : P20) : B64 := s512V ([3, 3] ++ (encP (clrP P)).to ++ [0])
def pairO (x : B64) (e : Int) : SV := .t [.g (cB64.row x), .a (int1 .i64 e)]
noncomputable def outSV (D : B80) : SV := bif okV D then pairO (outV (decP (g80 D))) 0 else pairO zeroC 2
namespace par
noncomputable abbrev fn := Tryd.f49
noncomputable def Γ : Cons Tryd.prog G2 := [pof_con.lift gx_g2, scanon_con]
theorem ext (D : B80) (P : P20) (t : Bool) : runOut Γ tys fn 100 [cB80.enc D] [(10, [.s (flagP P true)]), (25, [.s (cBool.enc t)])] = some (parSV P (c80 D) (t80 D) t, [flagP (decP (g80 D)) (decOk (g80 D)) = flagP P true, 16 ≤ 48, 16 ≤ 32, 32 ≤ 32, 32 ≤ 32, ∀ i, 0 ≤ (t80 D).at i ∧ (t80 D).at i < 256, cBool.enc (canV (t80 D)) = cBool.enc t]) := by kernel_rfl
theorem exf (D : B80) (P : P20) : runOut Γ tys fn 100 [cB80.enc D] [(10, [.s (flagP P false)])] = some (parSV P (c80 D) (t80 D) false, [flagP (decP (g80 D)) (decOk (g80 D)) = flagP P false, 16 ≤ 48, 16 ≤ 32, 32 ≤ 32, 32 ≤ 32]) := by kernel_rfl
end par
theorem parsed_fn (D : B80) (h : ∀ i, 0 ≤ (t80 D).at i ∧ (t80 D).at i < 256) : FnOk Tryd.prog G2 49 [cB80.enc D] (parSV (decP (g80 D)) (c80 D) (t80 D) (okV D)) := by
  unfold okV
  cases h1 : decOk (g80 D) with
  | false =>
    rw [Bool.false_and]
    exact FnOk.of_out tys_ok mixed Tryd.func49 (par.exf D (decP (g80 D))) ⟨congrArg (flagP _) h1, by omega, by omega, by omega, by omega, trivial⟩ rfl rfl
  | true =>
    rw [Bool.true_and]
    exact FnOk.of_out tys_ok mixed Tryd.func49 (par.ext D (decP (g80 D)) (canV (t80 D))) ⟨congrArg (flagP _) h1, by omega, by omega, by omega, by omega, h, rfl, trivial⟩ rfl rfl
noncomputable def parsed_con : Con Tryd.prog G2 := con1 49 Tryd.f49 Tryd.func49 (by kernel_rfl) (by kernel_rfl) cB80 (fun D => parSV (decP (g80 D)) (c80 D) (t80 D) (okV D)) (fun D => [∀ i, 0 ≤ (t80 D).at i ∧ (t80 D).at i < 256]) (fun _ => rfl) (fun D h => parsed_fn D h.1)
namespace vout
noncomputable abbrev fn := Tryd.f50
noncomputable def body : Code := bodyOf fn
noncomputable def R2 : Code := cs1 (csuf 2 body)
noncomputable def T2 : Code := csuf 3 body
noncomputable def i2 : Nat := match R2 with | .region i _ _ => i | _ => 0
noncomputable def Γ : Cons Tryd.prog G2 := [pcleared_con.lift gx_g2, pbytes_con.lift gx_g2, s512_con]
theorem suf_eq : csuf 2 body = .seq (.region i2 (opsOf R2) false) T2 := by kernel_rfl
theorem nilR : (((opsOf R2).toList.drop 3).drop 4) = [] := by kernel_rfl
def M0 : List (Option SV) := maskL 13 0 [(2, .o (.a (.ptr 1 0))), (3, .o (.a (.ptr 2 0)))]
def M1 : List (Option SV) := maskL 13 0 [(2, .o (.a (.ptr 1 0))), (9, .o (.a (.slg 4 34)))]
def MZ : List (Option SV) := maskL 13 0 [(2, .o (.a (.ptr 1 0)))]
def mem0 (P : P20) (b : B32) : List Blk := [⟨true, 74, .lit (cP.row P)⟩, ⟨true, 46, .lit (cB64.row zeroC)⟩, ⟨true, 24, .lit (cB32.row b)⟩]
def memB (P : P20) (b : B32) (lo : Nat) (hi : Option Nat) : List Blk := mem0 P b ++ [⟨true, 5, .lit [int1 .u8 3, int1 .u8 3]⟩, ⟨true, 5, .gro .u8 ([3, 3] ++ b.to) lo hi⟩]
def memZ (P : P20) (d : B64) : List Blk := [⟨true, 74, .lit (cP.row P)⟩, ⟨true, 46, .lit (cB64.row d)⟩]
theorem ids0 (P : P20) (b : B32) : idsIn (mem0 P b).length (M0) (mem0 P b) = true := by kernel_rfl
theorem ids1 (P : P20) (b : B32) (lo : Nat) (hi : Option Nat) : idsIn (memB P b lo hi).length (M1) (memB P b lo hi) = true := by kernel_rfl
theorem idsZ (P : P20) (d : B64) : idsIn (memZ P d).length (MZ) (memZ P d) = true := by kernel_rfl
theorem s0 (P C : P20) (b : B32) : outX (mem0 P b).length (M0) (exec Γ tys 100 (cpre 2 body) ⟨startT fn [cP.enc P], [], [(5, [.s (cP.enc C)]), (6, [.s (cB32.enc b)])]⟩) = some (.normal, live (M0), (M0).length, mem0 P b, [cP.enc (clrP P) = cP.enc C, cB32.enc (encP C) = cB32.enc b]) := by kernel_rfl
theorem e1 (P : P20) (b : B32) (g : Nat → SV) : outXL (memB P b 34 none).length (M1) (runOps Γ tys (opsOf R2).toList ((opsOf R2).toList.take 3) ⟨fill g 0 (M0), mem0 P b, []⟩) = some (live (M1), (M1).length, memB P b 34 none, [0 + 32 ≤ 32, 2 ≤ 2, 2 < 34, Room Tryd.prog 5 34]) := by kernel_rfl
theorem f (P : P20) (b : B32) (d : B64) (g : Nat → SV) : outXL (memZ P d).length (MZ) (runOps Γ tys (opsOf R2).toList (((opsOf R2).toList.drop 3).take 4) ⟨fill g 0 (M1), memB P b 35 none, [(12, [.s (cB64.enc d)])]⟩) = some (live (MZ), (MZ).length, memZ P d, [0 + 1 ≤ 1, 34 = ([3, 3] ++ b.to).length, 35 ≤ 35, 0 + 35 ≤ ([3, 3] ++ b.to ++ [0]).length, 35 ≤ 35, cB64.enc (s512V ((([3, 3] ++ b.to ++ [0]).drop 0).take 35)) = cB64.enc d]) := by kernel_rfl
theorem k (P : P20) (b : B32) (d : B64) (g : Nat → SV) : outXL (memZ P d).length (MZ) (runOps Γ tys (opsOf R2).toList (((opsOf R2).toList.drop 3).take 4) ⟨fill g 0 (M1), memB P b 34 (some 35), [(12, [.s (cB64.enc d)])]⟩) = some (live (MZ), (MZ).length, memZ P d, [0 + 1 ≤ 1, 34 = ([3, 3] ++ b.to).length, 35 ≤ 35, Room Tryd.prog 5 35, 0 + 35 ≤ ([3, 3] ++ b.to ++ [0]).length, 35 ≤ 35, cB64.enc (s512V ((([3, 3] ++ b.to ++ [0]).drop 0).take 35)) = cB64.enc d]) := by kernel_rfl
theorem z (P : P20) (d : B64) (g : Nat → SV) : exec Γ tys 100 T2 ⟨fill g 0 (MZ), memZ P d, []⟩ = some (.ret, ⟨fill g 0 (MZ), memZ P d, []⟩, []) := by kernel_rfl
theorem zr (P : P20) (d : B64) (g : Nat → SV) : eRes tys (fill g 0 (MZ)) (fun k => (memZ P d)[k]?) fn.results.toList = some [.g (cB64.row d)] := by kernel_rfl
theorem run (P : P20) : Runs Tryd.prog G2 body (startT fn [cP.enc P]) [] (Eng.Ends tys fn (cB64.enc (outV P))) := by
  refine Runs.of_outXP tys_ok mixed 2 (s0 P (clrP P) (encP (clrP P))) ⟨rfl, rfl, trivial⟩ (ids0 P _) rfl fun g => ?_
  rw [suf_eq]
  have e : (([3, 3] ++ (encP (clrP P)).to ++ [0]).drop 0).take 35 = [3, 3] ++ (encP (clrP P)).to ++ [0] := rfl
  have fin : ∀ g, Runs Tryd.prog G2 T2 (fill g 0 MZ) (memZ P (outV P)) (Eng.Ends tys fn (cB64.enc (outV P))) := fun g => Runs.of_exec tys_ok mixed (z P (outV P) g) trivial (Eng.Ends.ret (zr P (outV P) g) rfl)
  refine Runs.seq (Runs.region ?_)
  refine RunsL.of_outX tys_ok 3 (e1 P _ g) ⟨by omega, by omega, by omega, roomU _ (by omega), trivial⟩ (ids1 P _ _ _) rfl fun g => ?_
  refine RunsL.room 4 35 (own := true) (ty := 5) (kd := .u8) (xs := [3, 3] ++ (encP (clrP P)).to) (lo := 34) rfl ?_ ?_
  · refine RunsL.of_outX tys_ok 4 (f P _ (outV P) g) ⟨by omega, rfl, by omega, Nat.le_refl _, by omega, by rw [e]; rfl, trivial⟩ (idsZ P _) rfl fun g => ?_
    rw [nilR]
    exact RunsL.nil (fin g)
  · refine RunsL.of_outX tys_ok 4 (k P _ (outV P) g) ⟨by omega, rfl, by omega, roomU _ (by omega), Nat.le_refl _, by omega, by rw [e]; rfl, trivial⟩ (idsZ P _) rfl fun g => ?_
    rw [nilR]
    exact RunsL.nil (fin g)
end vout
noncomputable def vout_con : Con Tryd.prog G2 := con1 50 Tryd.f50 Tryd.func50 (by kernel_rfl) (by kernel_rfl) cP (fun P => cB64.enc (outV P)) (fun _ => []) (fun _ => rfl) (fun P _ => FnOk.of_runs tys_ok Tryd.func50 (c := vout.body) (by kernel_rfl) (vout.run P) rfl rfl)
namespace vOut
noncomputable abbrev fn := Tryd.f23
noncomputable def Γ : Cons Tryd.prog G2 := [parsed_con, vout_con]
theorem ext (D : B80) (P : P20) (c t : B32) (d : B64) : runOut Γ tys fn 100 [cB80.enc D] [(10, [.s (parSV P c t true)]), (19, [.s (cB64.enc d)])] = some (pairO d 0, [∀ i, 0 ≤ (t80 D).at i ∧ (t80 D).at i < 256, parSV (decP (g80 D)) (c80 D) (t80 D) (okV D) = parSV P c t true, cB64.enc (outV P) = cB64.enc d]) := by kernel_rfl
theorem exf (D : B80) (P : P20) (c t : B32) : runOut Γ tys fn 100 [cB80.enc D] [(10, [.s (parSV P c t false)])] = some (pairO zeroC 2, [∀ i, 0 ≤ (t80 D).at i ∧ (t80 D).at i < 256, parSV (decP (g80 D)) (c80 D) (t80 D) (okV D) = parSV P c t false]) := by kernel_rfl
end vOut
theorem vOut_fn (D : B80) (h : ∀ i, 0 ≤ (t80 D).at i ∧ (t80 D).at i < 256) : FnOk Tryd.prog G2 23 [cB80.enc D] (outSV D) := by
  unfold outSV
  cases h1 : okV D with
  | false =>
    rw [cond_false]
    exact FnOk.of_out tys_ok mixed Tryd.func23 (vOut.exf D (decP (g80 D)) (c80 D) (t80 D)) ⟨h, congrArg (parSV _ _ _) h1, trivial⟩ rfl rfl
  | true =>
    rw [cond_true]
    exact FnOk.of_out tys_ok mixed Tryd.func23 (vOut.ext D (decP (g80 D)) (c80 D) (t80 D) (outV (decP (g80 D)))) ⟨h, congrArg (parSV _ _ _) h1, rfl, trivial⟩ rfl rfl
theorem outSV_ids (D : B80) : (outSV D).ids = [] := by
  unfold outSV
  cases okV D <;> rfl
noncomputable def vOut_con : Con Tryd.prog G2 := con1 23 Tryd.f23 Tryd.func23 (by kernel_rfl) (by kernel_rfl) cB80 outSV (fun D => [∀ i, 0 ≤ (t80 D).at i ∧ (t80 D).at i < 256]) outSV_ids (fun D h => vOut_fn D h.1)
end Go.Proofs.YtbfndladaldajaaDoor
/- Package vrf: the point of an input: walk, contract. -/
namespace Go.Proofs.YtbfndladaldajaaDoor
open Go Go.Eng Go.RowKit
set_option linter.unusedVariables false
set_option linter.unusedSimpArgs false
set_option maxRecDepth 100000
def fnd (f : Nat → Bool) : Nat → Nat → Nat
  | 0, c => c
  | k + 1, c => bif f c then c else fnd f k (c + 1)
theorem fnd_no {f : Nat → Bool} : ∀ {k c : Nat}, (∀ i, c ≤ i → i < c + k → f i = false) → fnd f k c = c + k
  | 0, c, h => rfl
  | k + 1, c, h => by
    unfold fnd
    rw [h c (Nat.le_refl _) (by omega), cond_false, fnd_no (fun i h1 h2 => h i (by omega) (by omega))]
    omega
theorem fnd_yes {f : Nat → Bool} : ∀ {k c t : Nat}, (∀ i, c ≤ i → i < t → f i = false) → f t = true → c ≤ t → t < c + k → fnd f k c = t
  | 0, c, t, h, ht, h1, h2 => by omega
  | k + 1, c, t, h, ht, h1, h2 => by
    unfold fnd
    rcases Nat.eq_or_lt_of_le h1 with rfl | h3
    · rw [ht, cond_true]
    · rw [h c (Nat.le_refl _) h3, cond_false]
      exact fnd_yes (fun i h4 h5 => h i (by omega) h5) ht (by omega) (by omega)
def nilP : P20 := ⟨⟨0, 0, 0, 0, 0⟩, ⟨0, 0, 0, 0, 0⟩, ⟨0, 0, 0, 0, 0⟩, ⟨0, 0, 0, 0, 0⟩⟩
def inB (b : B32) (m : List Int) (c : Int) : List Int := [3, 1] ++ b.to ++ m ++ [c, 0]
noncomputable def hitV (b : B32) (m : List Int) (c : Nat) : B32 := lo64 (s512V (inB b m c))
noncomputable def orgV (q : B32) : Bool := eqB (encP (clrP (decP q))) zeroPt
noncomputable def goodV (b : B32) (m : List Int) (c : Nat) : Bool := decOk (hitV b m c) && !orgV (hitV b m c)
noncomputable def fndV (b : B32) (m : List Int) : Nat := fnd (goodV b m) 256 0
noncomputable def inOk (b : B32) (m : List Int) : Bool := Nat.blt (fndV b m) 256
noncomputable def inP (b : B32) (m : List Int) : P20 := clrP (decP (hitV b m (fndV b m)))
noncomputable def inR (b : B32) (m : List Int) : SV := bif inOk b m then flagP (inP b m) true else flagP nilP false
theorem inR_ids (b : B32) (m : List Int) : (inR b m).ids = [] := by
  unfold inR
  cases inOk b m <;> rfl
theorem in_stop {b : B32} {m : List Int} (h : ∀ i, i < 256 → goodV b m i = false) : inR b m = flagP nilP false := by
  have e : fndV b m = 256 := by
    have := fnd_no (f := goodV b m) (k := 256) (c := 0) (fun i _ h2 => h i (by omega))
    exact this
  have e2 : inOk b m = false := by unfold inOk; rw [e]; rfl
  unfold inR
  rw [e2, cond_false]
theorem in_hit' {b : B32} {m : List Int} {t : Nat} (h : ∀ i, i < t → goodV b m i = false) (ht : goodV b m t = true) (hl : t < 256) : inOk b m = true ∧ inP b m = clrP (decP (hitV b m t)) := by
  have e : fndV b m = t := fnd_yes (fun i _ h2 => h i h2) ht (Nat.zero_le _) (by omega)
  unfold inOk inP
  rw [e]
  exact ⟨Nat.ble_eq_true_of_le hl, rfl⟩
theorem in_hit {b : B32} {m : List Int} {t : Nat} (h : ∀ i, i < t → goodV b m i = false) (ht : goodV b m t = true) (hl : t < 256) : inR b m = flagP (clrP (decP (hitV b m t))) true := by
  obtain ⟨e, e2⟩ := in_hit' h ht hl
  unfold inR
  rw [e, cond_true, e2]
theorem put_two (l : List Int) (u c : Int) (k : Nat) (hk : k = l.length) : putI (0 + k) [c] 0 (l ++ [u, 0]) = l ++ [c, 0] := by
  subst hk
  rw [Nat.zero_add]
  have key : ∀ (l : List Int) (j : Nat), putI (j + l.length) [c] j (l ++ [u, 0]) = l ++ [c, 0] := by
    intro l
    induction l with
    | nil =>
      intro j
      have h1 : Nat.ble j j = true := Nat.ble_eq_true_of_le (Nat.le_refl _)
      have h2 : Nat.ble j (j + 1) = true := Nat.ble_eq_true_of_le (by omega)
      have h3 : j + 1 - j = 1 := by omega
      simp [putI, h1, h2, h3]
      rfl
    | cons x r ih =>
      intro j
      have h := ih (j + 1)
      rw [show j + 1 + r.length = j + (x :: r).length by simp; omega] at h
      have h1 : Nat.ble (j + (x :: r).length) j = false := by
        cases e : Nat.ble (j + (x :: r).length) j with
        | false => rfl
        | true =>
          have := Nat.le_of_ble_eq_true e
          rw [List.length_cons] at this
          omega
      rw [List.cons_append, putI, h, h1]
      rfl
  simpa using key l 0
namespace vin
noncomputable abbrev fn := Tryd.f42
noncomputable def body : Code := bodyOf fn
noncomputable def R2 : Code := cs1 (csuf 2 body)
noncomputable def T3 : Code := csuf 3 body
noncomputable def i2 : Nat := match R2 with | .region i _ _ => i | _ => 0
noncomputable def A : Code := cs1 (cs1 T3)
noncomputable def L : Code := cL (cB (cs2 (cs1 T3)))
noncomputable def D : Code := cs2 T3
noncomputable def Γ : Cons Tryd.prog G2 := [s512_con, pof_con.lift gx_g2, pcleared_con.lift gx_g2, porigin_con.lift gx_g2]
theorem suf_eq : csuf 2 body = .seq (.region i2 (opsOf R2) false) T3 := by kernel_rfl
theorem t3_eq : T3 = .seq (.seq A (.block 0 (.loop L))) D := by kernel_rfl
theorem nilR : (((opsOf R2).toList.drop 3).drop 3) = [] := by kernel_rfl
namespace w
def MA (ys : List Int) (n c : Nat) (ty : TypeId) : List (Option SV) := maskL 47 0 [(1, .o (.a (.sld 0 0 0 n c))), (4, .o (.a (.ptr 1 0))), (5, cBool.enc false), (6, .o (.a (.slg 2 34)))]
def MB (ys : List Int) (n c : Nat) (ty : TypeId) (l : Nat) : List (Option SV) := maskL 47 0 [(4, .o (.a (.ptr 1 0))), (5, cBool.enc false), (16, .o (.a (.slg 2 l)))]
def MC (ys : List Int) (n c : Nat) (ty : TypeId) (l : Nat) : List (Option SV) := maskL 47 0 [(4, .o (.a (.ptr 1 0))), (5, cBool.enc false), (6, .o (.a (.slg 2 l)))]
def MD (ys : List Int) (n c : Nat) (ty : TypeId) (l t : Nat) : List (Option SV) := maskL 47 0 [(4, .o (.a (.ptr 1 0))), (5, cBool.enc false), (6, .o (.a (.slg 2 l))), (19, (cInt .i64).enc (t : Int))]
def MZ (ys : List Int) (n c : Nat) (ty : TypeId) : List (Option SV) := maskL 47 0 [(4, .o (.a (.ptr 1 0))), (5, cBool.enc true)]
def MY (ys : List Int) (n c : Nat) (ty : TypeId) : List (Option SV) := maskL 47 0 [(4, .o (.a (.ptr 1 0))), (5, cBool.enc false)]
def mem (ys : List Int) (n c : Nat) (ty : TypeId) (xs : List Int) (lo : Nat) (hi : Option Nat) : List Blk := [⟨false, ty, .pre .u8 ys⟩] ++ [⟨true, 74, .lit (cP.row nilP)⟩, ⟨true, 5, .gro .u8 xs lo hi⟩]
def memZ (ys : List Int) (n c : Nat) (ty : TypeId) (P : P20) : List Blk := [⟨false, ty, .pre .u8 ys⟩] ++ [⟨true, 74, .lit (cP.row P)⟩]
theorem idsA (ys : List Int) (n c : Nat) (ty : TypeId) (xs : List Int) (lo : Nat) (hi : Option Nat) : idsIn (mem ys n c ty xs lo hi).length (MA ys n c ty ) (mem ys n c ty xs lo hi) = true := by kernel_rfl
theorem idsB (ys : List Int) (n c : Nat) (ty : TypeId) (xs : List Int) (lo : Nat) (hi : Option Nat) (l : Nat) : idsIn (mem ys n c ty xs lo hi).length (MB ys n c ty l) (mem ys n c ty xs lo hi) = true := by kernel_rfl
theorem idsC (ys : List Int) (n c : Nat) (ty : TypeId) (xs : List Int) (lo : Nat) (hi : Option Nat) (l : Nat) : idsIn (mem ys n c ty xs lo hi).length (MC ys n c ty l) (mem ys n c ty xs lo hi) = true := by kernel_rfl
theorem idsD (ys : List Int) (n c : Nat) (ty : TypeId) (xs : List Int) (lo : Nat) (hi : Option Nat) (l t : Nat) : idsIn (mem ys n c ty xs lo hi).length (MD ys n c ty l t) (mem ys n c ty xs lo hi) = true := by kernel_rfl
theorem idsZ (ys : List Int) (n c : Nat) (ty : TypeId) (P : P20) : idsIn (memZ ys n c ty P).length (MZ ys n c ty ) (memZ ys n c ty P) = true := by kernel_rfl
theorem idsY (ys : List Int) (n c : Nat) (ty : TypeId) (P : P20) : idsIn (memZ ys n c ty P).length (MY ys n c ty ) (memZ ys n c ty P) = true := by kernel_rfl
theorem s0 (ys : List Int) (n c : Nat) (ty : TypeId) (b : B32) : outN [0, 2, 4] (MA ys n c ty ) (exec Γ tys 100 (cpre 2 body) ⟨startT fn [cB32.enc b, .o (.a (.sld 0 0 0 n c))], [⟨false, ty, .pre .u8 ys⟩], []⟩) = some (.normal, (live (MA ys n c ty )).map (SV.ren (piF [0, 2, 4])), (MA ys n c ty ).length, (mem ys n c ty ([3, 1] ++ b.to) 34 none).map (fun b => some (b.ren (piF [0, 2, 4]))), [0 + 32 ≤ 32, 2 ≤ 2, 2 < 34, Room Tryd.prog 5 34]) := by kernel_rfl
theorem pe (ys : List Int) (n c : Nat) (ty : TypeId) (b : B32) (g : Nat → SV) : outXL (mem ys n c ty ([3, 1] ++ b.to ++ ((ys.drop 0).take n)) (34 + n) none).length (MB ys n c ty (34 + n)) (runOps Γ tys (opsOf R2).toList ((opsOf R2).toList.take 3) ⟨fill g 0 (MA ys n c ty ), mem ys n c ty ([3, 1] ++ b.to) (34 + n) none, []⟩) = some (live (MB ys n c ty (34 + n)), (MB ys n c ty (34 + n)).length, mem ys n c ty ([3, 1] ++ b.to ++ ((ys.drop 0).take n)) (34 + n) none, [0 + n ≤ ys.length, 34 = ([3, 1] ++ b.to).length, 34 + n ≤ 34 + n]) := by kernel_rfl
theorem ph (ys : List Int) (n c : Nat) (ty : TypeId) (b : B32) (g : Nat → SV) : outNL [0, 1, 3] (MB ys n c ty (34 + n)) (runOps Γ tys (opsOf R2).toList ((opsOf R2).toList.take 3) ⟨fill g 0 (MA ys n c ty ), mem ys n c ty ([3, 1] ++ b.to) 34 (some (34 + n)), []⟩) = some ((live (MB ys n c ty (34 + n))).map (SV.ren (piF [0, 1, 3])), (MB ys n c ty (34 + n)).length, (mem ys n c ty ([3, 1] ++ b.to ++ ((ys.drop 0).take n)) (34 + n) none).map (fun b => some (b.ren (piF [0, 1, 3]))), [0 + n ≤ ys.length, 34 = ([3, 1] ++ b.to).length, 34 + n ≤ 34 + n, Room Tryd.prog 5 (34 + n)]) := by kernel_rfl
theorem pj (ys : List Int) (n c : Nat) (ty : TypeId) (us : List Int) (l lo : Nat) (g : Nat → SV) : outXL (mem ys n c ty (us ++ [0, 0]) (l + 2) none).length (MC ys n c ty (l + 2)) (runOps Γ tys (opsOf R2).toList (((opsOf R2).toList.drop 3).take 3) ⟨fill g 0 (MB ys n c ty l), mem ys n c ty us (l + 2) none, []⟩) = some (live (MC ys n c ty (l + 2)), (MC ys n c ty (l + 2)).length, mem ys n c ty (us ++ [0, 0]) (l + 2) none, [0 + 2 ≤ 2, l = us.length, l + 2 ≤ l + 2]) := by kernel_rfl
theorem pk (ys : List Int) (n c : Nat) (ty : TypeId) (us : List Int) (l lo : Nat) (g : Nat → SV) : outNL [0, 1, 4] (MC ys n c ty (l + 2)) (runOps Γ tys (opsOf R2).toList (((opsOf R2).toList.drop 3).take 3) ⟨fill g 0 (MB ys n c ty l), mem ys n c ty us lo (some (l + 2)), []⟩) = some ((live (MC ys n c ty (l + 2))).map (SV.ren (piF [0, 1, 4])), (MC ys n c ty (l + 2)).length, (mem ys n c ty (us ++ [0, 0]) (l + 2) none).map (fun b => some (b.ren (piF [0, 1, 4]))), [0 + 2 ≤ 2, l = us.length, l + 2 ≤ l + 2, Room Tryd.prog 5 (l + 2)]) := by kernel_rfl
theorem ini (ys : List Int) (n c : Nat) (ty : TypeId) (xs : List Int) (l : Nat) (g : Nat → SV) : outX (mem ys n c ty xs (l + 2) none).length (MD ys n c ty (l + 2) 0) (exec Γ tys 100 A ⟨fill g 0 (MC ys n c ty (l + 2)), mem ys n c ty xs (l + 2) none, []⟩) = some (.normal, live (MD ys n c ty (l + 2) 0), (MD ys n c ty (l + 2) 0).length, mem ys n c ty xs (l + 2) none, []) := by kernel_rfl
theorem n1 (ys : List Int) (n c : Nat) (ty : TypeId) (xs : List Int) (l t : Nat) (d : B64) (P : P20) (g : Nat → SV) : outX (mem ys n c ty (putI (0 + l) [(t : Int)] 0 xs) (l + 2) none).length (MD ys n c ty (l + 2) (t + 1)) (exec Γ tys 100 L ⟨fill g 0 (MD ys n c ty (l + 2) t), mem ys n c ty xs (l + 2) none, [(20, [.b true]), (25, [.n (l : Int)]), (27, [.n (t : Int)]), (30, [.s (cB64.enc d)]), (35, [.s (flagP P false)]), (45, [.n ((t + 1 : Nat) : Int)])]⟩) = some (.normal, live (MD ys n c ty (l + 2) (t + 1)), (MD ys n c ty (l + 2) (t + 1)).length, mem ys n c ty (putI (0 + l) [(t : Int)] 0 xs) (l + 2) none, [decide ((t : Int) < 256) = true, IntKind.i64.wrap (((l + 2 : Nat) : Int) - 2) = (l : Int), IntKind.u8.wrap (t : Int) = (t : Int), 0 ≤ (l : Int), (l : Int) < ((l + 2 : Nat) : Int), 0 + l + 1 ≤ xs.length, 0 + (l + 2) ≤ (putI (0 + l) [(t : Int)] 0 xs).length, l + 2 ≤ l + 2, cB64.enc (s512V (((putI (0 + l) [(t : Int)] 0 xs).drop 0).take (l + 2))) = cB64.enc d, flagP (decP (lo64 d)) (decOk (lo64 d)) = flagP P false, IntKind.i64.wrap ((t : Int) + 1) = ((t + 1 : Nat) : Int)]) := by kernel_rfl
theorem n2 (ys : List Int) (n c : Nat) (ty : TypeId) (xs : List Int) (l t : Nat) (d : B64) (P C : P20) (g : Nat → SV) : outX (mem ys n c ty (putI (0 + l) [(t : Int)] 0 xs) (l + 2) none).length (MD ys n c ty (l + 2) (t + 1)) (exec Γ tys 100 L ⟨fill g 0 (MD ys n c ty (l + 2) t), mem ys n c ty xs (l + 2) none, [(20, [.b true]), (25, [.n (l : Int)]), (27, [.n (t : Int)]), (30, [.s (cB64.enc d)]), (35, [.s (flagP P true)]), (40, [.s (cP.enc C)]), (42, [.s (cBool.enc true)]), (45, [.n ((t + 1 : Nat) : Int)])]⟩) = some (.normal, live (MD ys n c ty (l + 2) (t + 1)), (MD ys n c ty (l + 2) (t + 1)).length, mem ys n c ty (putI (0 + l) [(t : Int)] 0 xs) (l + 2) none, [decide ((t : Int) < 256) = true, IntKind.i64.wrap (((l + 2 : Nat) : Int) - 2) = (l : Int), IntKind.u8.wrap (t : Int) = (t : Int), 0 ≤ (l : Int), (l : Int) < ((l + 2 : Nat) : Int), 0 + l + 1 ≤ xs.length, 0 + (l + 2) ≤ (putI (0 + l) [(t : Int)] 0 xs).length, l + 2 ≤ l + 2, cB64.enc (s512V (((putI (0 + l) [(t : Int)] 0 xs).drop 0).take (l + 2))) = cB64.enc d, flagP (decP (lo64 d)) (decOk (lo64 d)) = flagP P true, cP.enc (clrP P) = cP.enc C, cBool.enc (eqB (encP C) zeroPt) = cBool.enc true, IntKind.i64.wrap ((t : Int) + 1) = ((t + 1 : Nat) : Int)]) := by kernel_rfl
theorem y (ys : List Int) (n c : Nat) (ty : TypeId) (xs : List Int) (l t : Nat) (d : B64) (P C : P20) (g : Nat → SV) : outX (memZ ys n c ty C).length (MZ ys n c ty ) (exec Γ tys 100 L ⟨fill g 0 (MD ys n c ty (l + 2) t), mem ys n c ty xs (l + 2) none, [(20, [.b true]), (25, [.n (l : Int)]), (27, [.n (t : Int)]), (30, [.s (cB64.enc d)]), (35, [.s (flagP P true)]), (40, [.s (cP.enc C)]), (42, [.s (cBool.enc false)])]⟩) = some (.ret, live (MZ ys n c ty ), (MZ ys n c ty ).length, memZ ys n c ty C, [decide ((t : Int) < 256) = true, IntKind.i64.wrap (((l + 2 : Nat) : Int) - 2) = (l : Int), IntKind.u8.wrap (t : Int) = (t : Int), 0 ≤ (l : Int), (l : Int) < ((l + 2 : Nat) : Int), 0 + l + 1 ≤ xs.length, 0 + (l + 2) ≤ (putI (0 + l) [(t : Int)] 0 xs).length, l + 2 ≤ l + 2, cB64.enc (s512V (((putI (0 + l) [(t : Int)] 0 xs).drop 0).take (l + 2))) = cB64.enc d, flagP (decP (lo64 d)) (decOk (lo64 d)) = flagP P true, cP.enc (clrP P) = cP.enc C, cBool.enc (eqB (encP C) zeroPt) = cBool.enc false]) := by kernel_rfl
theorem x (ys : List Int) (n c : Nat) (ty : TypeId) (xs : List Int) (l t : Nat) (g : Nat → SV) : outX (memZ ys n c ty nilP).length (MY ys n c ty ) (exec Γ tys 100 L ⟨fill g 0 (MD ys n c ty (l + 2) t), mem ys n c ty xs (l + 2) none, [(20, [.b false])]⟩) = some (.exit 0, live (MY ys n c ty ), (MY ys n c ty ).length, memZ ys n c ty nilP, [decide ((t : Int) < 256) = false]) := by kernel_rfl
theorem zr (ys : List Int) (n c : Nat) (ty : TypeId) (P : P20) (g : Nat → SV) : eRes tys (fill g 0 (MZ ys n c ty )) (fun k => (memZ ys n c ty P)[k]?) fn.results.toList = some [.g (cP.row P), .a (bool1 true)] := by kernel_rfl
theorem d (ys : List Int) (n c : Nat) (ty : TypeId) (g : Nat → SV) : outX (memZ ys n c ty nilP).length (MY ys n c ty ) (exec Γ tys 100 D ⟨fill g 0 (MY ys n c ty ), memZ ys n c ty nilP, []⟩) = some (.ret, live (MY ys n c ty ), (MY ys n c ty ).length, memZ ys n c ty nilP, []) := by kernel_rfl
theorem yr (ys : List Int) (n c : Nat) (ty : TypeId) (P : P20) (g : Nat → SV) : eRes tys (fill g 0 (MY ys n c ty )) (fun k => (memZ ys n c ty P)[k]?) fn.results.toList = some [.g (cP.row P), .a (bool1 false)] := by kernel_rfl
theorem two (ys : List Int) (n c : Nat) (ty : TypeId) (us : List Int) (l lo : Nat) (hl : l = us.length) (hs : l ≤ 140737488354000) {Post : Ex → List SV → List Blk → Prop} (hp : ∀ g, Post .normal (fill g 0 (MC ys n c ty (l + 2))) (mem ys n c ty (us ++ [0, 0]) (l + 2) none)) (g : Nat → SV) :
    RunsL Tryd.prog G2 1 (opsOf R2) ((opsOf R2).toList.drop 3) (fill g 0 (MB ys n c ty l)) (mem ys n c ty us lo none) Post := by
  refine RunsL.room 2 (l + 2) (own := true) (ty := 5) (kd := .u8) (xs := us) (lo := lo) rfl ?_ ?_
  · refine RunsL.of_outX tys_ok 3 (pj ys n c ty us l lo g) ⟨by omega, hl, by omega, trivial⟩ (idsC ys n c ty _ _ _ _) rfl fun g => ?_
    rw [nilR]
    exact RunsL.nil (hp g)
  · refine RunsL.of_outN tys_ok 3 _ (pk ys n c ty us l lo g) ⟨by omega, hl, by omega, roomU _ (by omega), trivial⟩ (idsC ys n c ty _ _ _ _) rfl fun g => ?_
    rw [nilR]
    exact RunsL.nil (hp g)
theorem one (ys : List Int) (n c : Nat) (ty : TypeId) (b : B32) (hy : ys.length = n) (hn : n ≤ 140737488353900) {Post : Ex → List SV → List Blk → Prop} (hp : ∀ g, Post .normal (fill g 0 (MC ys n c ty (34 + n + 2))) (mem ys n c ty ([3, 1] ++ b.to ++ ((ys.drop 0).take n) ++ [0, 0]) (34 + n + 2) none)) (g : Nat → SV) :
    RunsL Tryd.prog G2 1 (opsOf R2) (opsOf R2).toList (fill g 0 (MA ys n c ty )) (mem ys n c ty ([3, 1] ++ b.to) 34 none) Post := by
  have hl : ([3, 1] ++ b.to).length = 34 := rfl
  have e : ((ys.drop 0).take n).length = n := by rw [dt0 ys n hy]; exact hy
  refine RunsL.room 2 (34 + n) (own := true) (ty := 5) (kd := .u8) (xs := [3, 1] ++ b.to) (lo := 34) rfl ?_ ?_
  · refine RunsL.of_outX tys_ok 3 (pe ys n c ty b g) ⟨by omega, rfl, by omega, trivial⟩ (idsB ys n c ty _ _ _ _) rfl fun g => ?_
    exact two ys n c ty _ _ _ (by rw [List.length_append, e, hl]) (by omega) hp g
  · refine RunsL.of_outN tys_ok 3 _ (ph ys n c ty b g) ⟨by omega, rfl, by omega, roomU _ (by omega), trivial⟩ (idsB ys n c ty _ _ _ _) rfl fun g => ?_
    exact two ys n c ty _ _ _ (by rw [List.length_append, e, hl]) (by omega) hp g
theorem run (b : B32) (ys : List Int) (n c : Nat) (ty : TypeId) (hy : ys.length = n) (hn : n ≤ 140737488353900) : RunsF Tryd.prog G2 1 body (startT fn [cB32.enc b, .o (.a (.sld 0 0 0 n c))]) ([⟨false, ty, .pre .u8 ys⟩]) (EndsM tys fn (endsQ (inR b ys) .none)) := by
  have hY : (((ys.drop 0).take n) : List Int) = ys := dt0 ys n hy
  have hL : ([3, 1] ++ b.to ++ ys).length = 34 + n := by
    have h1 : ([3, 1] ++ b.to).length = 34 := rfl
    rw [List.length_append, h1, hy]
  refine Runs.of_outNP tys_ok mixed 2 _ (s0 ys n c ty b) ⟨by omega, by omega, by omega, roomU _ (by omega), trivial⟩ (idsA ys n c ty _ _ _) rfl fun g => ?_
  rw [suf_eq]
  refine Runs.seq (Runs.region (one ys n c ty b hy hn (fun g => ?_) g))
  rw [t3_eq, hY]
  refine Runs.seq (Runs.seq (Runs.of_outX tys_ok mixed (ini ys n c ty _ (34 + n) g) trivial (idsD ys n c ty _ _ _ _ _) rfl fun g => ?_))
  refine Runs.block ?_
  refine Runs.loopX (fun (x : Nat × Int) => MD ys n c ty (34 + n + 2) x.1) (fun x => mem ys n c ty ([3, 1] ++ b.to ++ ys ++ [x.2, 0]) (34 + n + 2) none) (fun x => x.1 ≤ 256 ∧ ∀ i, i < x.1 → goodV b ys i = false) (fun x => 256 - x.1) ?_ (0, 0) ⟨by omega, fun i h => by omega⟩ g
  rintro ⟨t, u⟩ g ⟨ht, hno⟩
  simp only at ht hno
  have hput : putI (0 + (34 + n)) [(t : Int)] 0 ([3, 1] ++ b.to ++ ys ++ [u, 0]) = inB b ys t := put_two _ _ _ _ hL.symm
  have hlen : ([3, 1] ++ b.to ++ ys ++ [u, 0]).length = 34 + n + 2 := by rw [List.length_append, hL]; rfl
  have hlen2 : 0 + (34 + n) + 1 ≤ ([3, 1] ++ b.to ++ ys ++ [u, 0]).length := by rw [hlen]; omega
  have hin : (inB b ys t).length = 34 + n + 2 := by
    unfold inB
    rw [List.length_append, hL]; rfl
  by_cases hlt : t < 256
  · have w1 : IntKind.i64.wrap (((34 + n + 2 : Nat) : Int) - 2) = ((34 + n : Nat) : Int) := i64n (by omega) (by omega)
    have w2 : IntKind.u8.wrap (t : Int) = (t : Int) := by rw [IntKind.wrap_u8]; omega
    have w3 : IntKind.i64.wrap ((t : Int) + 1) = ((t + 1 : Nat) : Int) := i64n (by omega) (by omega)
    have w4 : cB64.enc (s512V (((putI (0 + (34 + n)) [(t : Int)] 0 ([3, 1] ++ b.to ++ ys ++ [u, 0])).drop 0).take (34 + n + 2))) = cB64.enc (s512V (inB b ys t)) := by rw [hput, dt0 _ _ hin]
    have w5 : 0 + (34 + n + 2) ≤ (putI (0 + (34 + n)) [(t : Int)] 0 ([3, 1] ++ b.to ++ ys ++ [u, 0])).length := by rw [hput, hin]; omega
    have nxt : goodV b ys t = false → ∀ i, i < t + 1 → goodV b ys i = false := fun h i hi => by
      rcases Nat.lt_or_ge i t with h' | h'
      · exact hno i h'
      · obtain rfl : i = t := by omega
        exact h
    cases h1 : decOk (hitV b ys t) with
    | false =>
      refine Runs.of_outX tys_ok mixed (n1 ys n c ty _ (34 + n) t (s512V (inB b ys t)) (decP (hitV b ys t)) g) ⟨decide_eq_true (by omega), w1, w2, by omega, by omega, hlen2, w5, by omega, w4, congrArg (flagP _) h1, w3, trivial⟩ (idsD ys n c ty _ _ _ _ _) rfl fun g' => ⟨(t + 1, (t : Int)), g', rfl, by rw [hput]; rfl, ⟨by omega, nxt (by unfold goodV; rw [h1]; rfl)⟩, by simp only; omega⟩
    | true =>
      cases h2 : orgV (hitV b ys t) with
      | true =>
        refine Runs.of_outX tys_ok mixed (n2 ys n c ty _ (34 + n) t (s512V (inB b ys t)) (decP (hitV b ys t)) (clrP (decP (hitV b ys t))) g) ⟨decide_eq_true (by omega), w1, w2, by omega, by omega, hlen2, w5, by omega, w4, congrArg (flagP _) h1, rfl, congrArg cBool.enc h2, w3, trivial⟩ (idsD ys n c ty _ _ _ _ _) rfl fun g' => ⟨(t + 1, (t : Int)), g', rfl, by rw [hput]; rfl, ⟨by omega, nxt (by unfold goodV; rw [h1, h2]; rfl)⟩, by simp only; omega⟩
      | false =>
        rw [in_hit hno (by unfold goodV; rw [h1, h2]; rfl) hlt]
        exact Runs.of_outX tys_ok mixed (y ys n c ty _ (34 + n) t (s512V (inB b ys t)) (decP (hitV b ys t)) (clrP (decP (hitV b ys t))) g) ⟨decide_eq_true (by omega), w1, w2, by omega, by omega, hlen2, w5, by omega, w4, congrArg (flagP _) h1, rfl, congrArg cBool.enc h2, trivial⟩ (idsZ ys n c ty _) rfl fun g' => EndsM.ret (zr ys n c ty _ g') rfl
  · rw [in_stop (fun i hi => hno i (by omega))]
    refine Runs.of_outX tys_ok mixed (x ys n c ty _ (34 + n) t g) ⟨decide_eq_false (by omega), trivial⟩ (idsY ys n c ty _) rfl fun g => ?_
    exact Runs.of_outX tys_ok mixed (d ys n c ty g) trivial (idsY ys n c ty _) rfl fun g' => EndsM.ret (yr ys n c ty _ g') rfl
end w
namespace v
def MA (a : Option Addr) : List (Option SV) := maskL 47 0 [(1, .o (.a (.v (.slice a 0 0)))), (4, .o (.a (.ptr 0 0))), (5, cBool.enc false), (6, .o (.a (.slg 1 34)))]
def MB (a : Option Addr) (l : Nat) : List (Option SV) := maskL 47 0 [(4, .o (.a (.ptr 0 0))), (5, cBool.enc false), (16, .o (.a (.slg 1 l)))]
def MC (a : Option Addr) (l : Nat) : List (Option SV) := maskL 47 0 [(4, .o (.a (.ptr 0 0))), (5, cBool.enc false), (6, .o (.a (.slg 1 l)))]
def MD (a : Option Addr) (l t : Nat) : List (Option SV) := maskL 47 0 [(4, .o (.a (.ptr 0 0))), (5, cBool.enc false), (6, .o (.a (.slg 1 l))), (19, (cInt .i64).enc (t : Int))]
def MZ (a : Option Addr) : List (Option SV) := maskL 47 0 [(4, .o (.a (.ptr 0 0))), (5, cBool.enc true)]
def MY (a : Option Addr) : List (Option SV) := maskL 47 0 [(4, .o (.a (.ptr 0 0))), (5, cBool.enc false)]
def mem (a : Option Addr) (xs : List Int) (lo : Nat) (hi : Option Nat) : List Blk := [] ++ [⟨true, 74, .lit (cP.row nilP)⟩, ⟨true, 5, .gro .u8 xs lo hi⟩]
def memZ (a : Option Addr) (P : P20) : List Blk := [] ++ [⟨true, 74, .lit (cP.row P)⟩]
theorem idsA (a : Option Addr) (xs : List Int) (lo : Nat) (hi : Option Nat) : idsIn (mem a xs lo hi).length (MA a ) (mem a xs lo hi) = true := by kernel_rfl
theorem idsB (a : Option Addr) (xs : List Int) (lo : Nat) (hi : Option Nat) (l : Nat) : idsIn (mem a xs lo hi).length (MB a l) (mem a xs lo hi) = true := by kernel_rfl
theorem idsC (a : Option Addr) (xs : List Int) (lo : Nat) (hi : Option Nat) (l : Nat) : idsIn (mem a xs lo hi).length (MC a l) (mem a xs lo hi) = true := by kernel_rfl
theorem idsD (a : Option Addr) (xs : List Int) (lo : Nat) (hi : Option Nat) (l t : Nat) : idsIn (mem a xs lo hi).length (MD a l t) (mem a xs lo hi) = true := by kernel_rfl
theorem idsZ (a : Option Addr) (P : P20) : idsIn (memZ a P).length (MZ a ) (memZ a P) = true := by kernel_rfl
theorem idsY (a : Option Addr) (P : P20) : idsIn (memZ a P).length (MY a ) (memZ a P) = true := by kernel_rfl
theorem s0 (a : Option Addr) (b : B32) : outN [1, 3] (MA a ) (exec Γ tys 100 (cpre 2 body) ⟨startT fn [cB32.enc b, .o (.a (.v (.slice a 0 0)))], [], []⟩) = some (.normal, (live (MA a )).map (SV.ren (piF [1, 3])), (MA a ).length, (mem a ([3, 1] ++ b.to) 34 none).map (fun b => some (b.ren (piF [1, 3]))), [0 + 32 ≤ 32, 2 ≤ 2, 2 < 34, Room Tryd.prog 5 34]) := by kernel_rfl
theorem pe (a : Option Addr) (b : B32) (g : Nat → SV) : outXL (mem a ([3, 1] ++ b.to ++ []) (34 + 0) none).length (MB a (34 + 0)) (runOps Γ tys (opsOf R2).toList ((opsOf R2).toList.take 3) ⟨fill g 0 (MA a ), mem a ([3, 1] ++ b.to) (34 + 0) none, []⟩) = some (live (MB a (34 + 0)), (MB a (34 + 0)).length, mem a ([3, 1] ++ b.to ++ []) (34 + 0) none, [34 = ([3, 1] ++ b.to).length, 34 + 0 ≤ 34 + 0]) := by kernel_rfl
theorem pj (a : Option Addr) (us : List Int) (l lo : Nat) (g : Nat → SV) : outXL (mem a (us ++ [0, 0]) (l + 2) none).length (MC a (l + 2)) (runOps Γ tys (opsOf R2).toList (((opsOf R2).toList.drop 3).take 3) ⟨fill g 0 (MB a l), mem a us (l + 2) none, []⟩) = some (live (MC a (l + 2)), (MC a (l + 2)).length, mem a (us ++ [0, 0]) (l + 2) none, [0 + 2 ≤ 2, l = us.length, l + 2 ≤ l + 2]) := by kernel_rfl
theorem pk (a : Option Addr) (us : List Int) (l lo : Nat) (g : Nat → SV) : outNL [0, 3] (MC a (l + 2)) (runOps Γ tys (opsOf R2).toList (((opsOf R2).toList.drop 3).take 3) ⟨fill g 0 (MB a l), mem a us lo (some (l + 2)), []⟩) = some ((live (MC a (l + 2))).map (SV.ren (piF [0, 3])), (MC a (l + 2)).length, (mem a (us ++ [0, 0]) (l + 2) none).map (fun b => some (b.ren (piF [0, 3]))), [0 + 2 ≤ 2, l = us.length, l + 2 ≤ l + 2, Room Tryd.prog 5 (l + 2)]) := by kernel_rfl
theorem ini (a : Option Addr) (xs : List Int) (l : Nat) (g : Nat → SV) : outX (mem a xs (l + 2) none).length (MD a (l + 2) 0) (exec Γ tys 100 A ⟨fill g 0 (MC a (l + 2)), mem a xs (l + 2) none, []⟩) = some (.normal, live (MD a (l + 2) 0), (MD a (l + 2) 0).length, mem a xs (l + 2) none, []) := by kernel_rfl
theorem n1 (a : Option Addr) (xs : List Int) (l t : Nat) (d : B64) (P : P20) (g : Nat → SV) : outX (mem a (putI (0 + l) [(t : Int)] 0 xs) (l + 2) none).length (MD a (l + 2) (t + 1)) (exec Γ tys 100 L ⟨fill g 0 (MD a (l + 2) t), mem a xs (l + 2) none, [(20, [.b true]), (25, [.n (l : Int)]), (27, [.n (t : Int)]), (30, [.s (cB64.enc d)]), (35, [.s (flagP P false)]), (45, [.n ((t + 1 : Nat) : Int)])]⟩) = some (.normal, live (MD a (l + 2) (t + 1)), (MD a (l + 2) (t + 1)).length, mem a (putI (0 + l) [(t : Int)] 0 xs) (l + 2) none, [decide ((t : Int) < 256) = true, IntKind.i64.wrap (((l + 2 : Nat) : Int) - 2) = (l : Int), IntKind.u8.wrap (t : Int) = (t : Int), 0 ≤ (l : Int), (l : Int) < ((l + 2 : Nat) : Int), 0 + l + 1 ≤ xs.length, 0 + (l + 2) ≤ (putI (0 + l) [(t : Int)] 0 xs).length, l + 2 ≤ l + 2, cB64.enc (s512V (((putI (0 + l) [(t : Int)] 0 xs).drop 0).take (l + 2))) = cB64.enc d, flagP (decP (lo64 d)) (decOk (lo64 d)) = flagP P false, IntKind.i64.wrap ((t : Int) + 1) = ((t + 1 : Nat) : Int)]) := by kernel_rfl
theorem n2 (a : Option Addr) (xs : List Int) (l t : Nat) (d : B64) (P C : P20) (g : Nat → SV) : outX (mem a (putI (0 + l) [(t : Int)] 0 xs) (l + 2) none).length (MD a (l + 2) (t + 1)) (exec Γ tys 100 L ⟨fill g 0 (MD a (l + 2) t), mem a xs (l + 2) none, [(20, [.b true]), (25, [.n (l : Int)]), (27, [.n (t : Int)]), (30, [.s (cB64.enc d)]), (35, [.s (flagP P true)]), (40, [.s (cP.enc C)]), (42, [.s (cBool.enc true)]), (45, [.n ((t + 1 : Nat) : Int)])]⟩) = some (.normal, live (MD a (l + 2) (t + 1)), (MD a (l + 2) (t + 1)).length, mem a (putI (0 + l) [(t : Int)] 0 xs) (l + 2) none, [decide ((t : Int) < 256) = true, IntKind.i64.wrap (((l + 2 : Nat) : Int) - 2) = (l : Int), IntKind.u8.wrap (t : Int) = (t : Int), 0 ≤ (l : Int), (l : Int) < ((l + 2 : Nat) : Int), 0 + l + 1 ≤ xs.length, 0 + (l + 2) ≤ (putI (0 + l) [(t : Int)] 0 xs).length, l + 2 ≤ l + 2, cB64.enc (s512V (((putI (0 + l) [(t : Int)] 0 xs).drop 0).take (l + 2))) = cB64.enc d, flagP (decP (lo64 d)) (decOk (lo64 d)) = flagP P true, cP.enc (clrP P) = cP.enc C, cBool.enc (eqB (encP C) zeroPt) = cBool.enc true, IntKind.i64.wrap ((t : Int) + 1) = ((t + 1 : Nat) : Int)]) := by kernel_rfl
theorem y (a : Option Addr) (xs : List Int) (l t : Nat) (d : B64) (P C : P20) (g : Nat → SV) : outX (memZ a C).length (MZ a ) (exec Γ tys 100 L ⟨fill g 0 (MD a (l + 2) t), mem a xs (l + 2) none, [(20, [.b true]), (25, [.n (l : Int)]), (27, [.n (t : Int)]), (30, [.s (cB64.enc d)]), (35, [.s (flagP P true)]), (40, [.s (cP.enc C)]), (42, [.s (cBool.enc false)])]⟩) = some (.ret, live (MZ a ), (MZ a ).length, memZ a C, [decide ((t : Int) < 256) = true, IntKind.i64.wrap (((l + 2 : Nat) : Int) - 2) = (l : Int), IntKind.u8.wrap (t : Int) = (t : Int), 0 ≤ (l : Int), (l : Int) < ((l + 2 : Nat) : Int), 0 + l + 1 ≤ xs.length, 0 + (l + 2) ≤ (putI (0 + l) [(t : Int)] 0 xs).length, l + 2 ≤ l + 2, cB64.enc (s512V (((putI (0 + l) [(t : Int)] 0 xs).drop 0).take (l + 2))) = cB64.enc d, flagP (decP (lo64 d)) (decOk (lo64 d)) = flagP P true, cP.enc (clrP P) = cP.enc C, cBool.enc (eqB (encP C) zeroPt) = cBool.enc false]) := by kernel_rfl
theorem x (a : Option Addr) (xs : List Int) (l t : Nat) (g : Nat → SV) : outX (memZ a nilP).length (MY a ) (exec Γ tys 100 L ⟨fill g 0 (MD a (l + 2) t), mem a xs (l + 2) none, [(20, [.b false])]⟩) = some (.exit 0, live (MY a ), (MY a ).length, memZ a nilP, [decide ((t : Int) < 256) = false]) := by kernel_rfl
theorem zr (a : Option Addr) (P : P20) (g : Nat → SV) : eRes tys (fill g 0 (MZ a )) (fun k => (memZ a P)[k]?) fn.results.toList = some [.g (cP.row P), .a (bool1 true)] := by kernel_rfl
theorem d (a : Option Addr) (g : Nat → SV) : outX (memZ a nilP).length (MY a ) (exec Γ tys 100 D ⟨fill g 0 (MY a ), memZ a nilP, []⟩) = some (.ret, live (MY a ), (MY a ).length, memZ a nilP, []) := by kernel_rfl
theorem yr (a : Option Addr) (P : P20) (g : Nat → SV) : eRes tys (fill g 0 (MY a )) (fun k => (memZ a P)[k]?) fn.results.toList = some [.g (cP.row P), .a (bool1 false)] := by kernel_rfl
theorem two (a : Option Addr) (us : List Int) (l lo : Nat) (hl : l = us.length) (hs : l ≤ 140737488354000) {Post : Ex → List SV → List Blk → Prop} (hp : ∀ g, Post .normal (fill g 0 (MC a (l + 2))) (mem a (us ++ [0, 0]) (l + 2) none)) (g : Nat → SV) :
    RunsL Tryd.prog G2 0 (opsOf R2) ((opsOf R2).toList.drop 3) (fill g 0 (MB a l)) (mem a us lo none) Post := by
  refine RunsL.room 1 (l + 2) (own := true) (ty := 5) (kd := .u8) (xs := us) (lo := lo) rfl ?_ ?_
  · refine RunsL.of_outX tys_ok 3 (pj a us l lo g) ⟨by omega, hl, by omega, trivial⟩ (idsC a _ _ _ _) rfl fun g => ?_
    rw [nilR]
    exact RunsL.nil (hp g)
  · refine RunsL.of_outN tys_ok 3 _ (pk a us l lo g) ⟨by omega, hl, by omega, roomU _ (by omega), trivial⟩ (idsC a _ _ _ _) rfl fun g => ?_
    rw [nilR]
    exact RunsL.nil (hp g)
theorem one (a : Option Addr) (b : B32) {Post : Ex → List SV → List Blk → Prop} (hp : ∀ g, Post .normal (fill g 0 (MC a (34 + 0 + 2))) (mem a ([3, 1] ++ b.to ++ [] ++ [0, 0]) (34 + 0 + 2) none)) (g : Nat → SV) :
    RunsL Tryd.prog G2 0 (opsOf R2) (opsOf R2).toList (fill g 0 (MA a )) (mem a ([3, 1] ++ b.to) 34 none) Post := by
  have hl : ([3, 1] ++ b.to).length = 34 := rfl
  refine RunsL.of_outX tys_ok 3 (pe a b g) ⟨rfl, by omega, trivial⟩ (idsB a _ _ _ _) rfl fun g => ?_
  exact two a _ (34 + 0) _ (rfl) (by omega) hp g
theorem run (b : B32) (a : Option Addr) : RunsF Tryd.prog G2 0 body (startT fn [cB32.enc b, .o (.a (.v (.slice a 0 0)))]) ([]) (EndsM tys fn (endsQ (inR b []) .none)) := by
  have hY : ([] : List Int) = [] := rfl
  have hL : ([3, 1] ++ b.to ++ []).length = 34 + 0 := by
    have h1 : ([3, 1] ++ b.to).length = 34 := rfl
    rw [List.length_append, h1, List.length_nil]
  refine Runs.of_outNP tys_ok mixed 2 _ (s0 a b) ⟨by omega, by omega, by omega, roomU _ (by omega), trivial⟩ (idsA a _ _ _) rfl fun g => ?_
  rw [suf_eq]
  refine Runs.seq (Runs.region (one a b (fun g => ?_) g))
  rw [t3_eq, hY]
  refine Runs.seq (Runs.seq (Runs.of_outX tys_ok mixed (ini a _ (34 + 0) g) trivial (idsD a _ _ _ _ _) rfl fun g => ?_))
  refine Runs.block ?_
  refine Runs.loopX (fun (x : Nat × Int) => MD a (34 + 0 + 2) x.1) (fun x => mem a ([3, 1] ++ b.to ++ [] ++ [x.2, 0]) (34 + 0 + 2) none) (fun x => x.1 ≤ 256 ∧ ∀ i, i < x.1 → goodV b [] i = false) (fun x => 256 - x.1) ?_ (0, 0) ⟨by omega, fun i h => by omega⟩ g
  rintro ⟨t, u⟩ g ⟨ht, hno⟩
  simp only at ht hno
  have hput : putI (0 + (34 + 0)) [(t : Int)] 0 ([3, 1] ++ b.to ++ [] ++ [u, 0]) = inB b [] t := put_two _ _ _ _ hL.symm
  have hlen : ([3, 1] ++ b.to ++ [] ++ [u, 0]).length = 34 + 0 + 2 := by rw [List.length_append, hL]; rfl
  have hlen2 : 0 + (34 + 0) + 1 ≤ ([3, 1] ++ b.to ++ [] ++ [u, 0]).length := by rw [hlen]; omega
  have hin : (inB b [] t).length = 34 + 0 + 2 := by
    unfold inB
    rw [List.length_append, hL]; rfl
  by_cases hlt : t < 256
  · have w1 : IntKind.i64.wrap (((34 + 0 + 2 : Nat) : Int) - 2) = ((34 + 0 : Nat) : Int) := i64n (by omega) (by omega)
    have w2 : IntKind.u8.wrap (t : Int) = (t : Int) := by rw [IntKind.wrap_u8]; omega
    have w3 : IntKind.i64.wrap ((t : Int) + 1) = ((t + 1 : Nat) : Int) := i64n (by omega) (by omega)
    have w4 : cB64.enc (s512V (((putI (0 + (34 + 0)) [(t : Int)] 0 ([3, 1] ++ b.to ++ [] ++ [u, 0])).drop 0).take (34 + 0 + 2))) = cB64.enc (s512V (inB b [] t)) := by rw [hput, dt0 _ _ hin]
    have w5 : 0 + (34 + 0 + 2) ≤ (putI (0 + (34 + 0)) [(t : Int)] 0 ([3, 1] ++ b.to ++ [] ++ [u, 0])).length := by rw [hput, hin]; omega
    have nxt : goodV b [] t = false → ∀ i, i < t + 1 → goodV b [] i = false := fun h i hi => by
      rcases Nat.lt_or_ge i t with h' | h'
      · exact hno i h'
      · obtain rfl : i = t := by omega
        exact h
    cases h1 : decOk (hitV b [] t) with
    | false =>
      refine Runs.of_outX tys_ok mixed (n1 a _ (34 + 0) t (s512V (inB b [] t)) (decP (hitV b [] t)) g) ⟨decide_eq_true (by omega), w1, w2, by omega, by omega, hlen2, w5, by omega, w4, congrArg (flagP _) h1, w3, trivial⟩ (idsD a _ _ _ _ _) rfl fun g' => ⟨(t + 1, (t : Int)), g', rfl, by rw [hput]; rfl, ⟨by omega, nxt (by unfold goodV; rw [h1]; rfl)⟩, by simp only; omega⟩
    | true =>
      cases h2 : orgV (hitV b [] t) with
      | true =>
        refine Runs.of_outX tys_ok mixed (n2 a _ (34 + 0) t (s512V (inB b [] t)) (decP (hitV b [] t)) (clrP (decP (hitV b [] t))) g) ⟨decide_eq_true (by omega), w1, w2, by omega, by omega, hlen2, w5, by omega, w4, congrArg (flagP _) h1, rfl, congrArg cBool.enc h2, w3, trivial⟩ (idsD a _ _ _ _ _) rfl fun g' => ⟨(t + 1, (t : Int)), g', rfl, by rw [hput]; rfl, ⟨by omega, nxt (by unfold goodV; rw [h1, h2]; rfl)⟩, by simp only; omega⟩
      | false =>
        rw [in_hit hno (by unfold goodV; rw [h1, h2]; rfl) hlt]
        exact Runs.of_outX tys_ok mixed (y a _ (34 + 0) t (s512V (inB b [] t)) (decP (hitV b [] t)) (clrP (decP (hitV b [] t))) g) ⟨decide_eq_true (by omega), w1, w2, by omega, by omega, hlen2, w5, by omega, w4, congrArg (flagP _) h1, rfl, congrArg cBool.enc h2, trivial⟩ (idsZ a _) rfl fun g' => EndsM.ret (zr a _ g') rfl
  · rw [in_stop (fun i hi => hno i (by omega))]
    refine Runs.of_outX tys_ok mixed (x a _ (34 + 0) t g) ⟨decide_eq_false (by omega), trivial⟩ (idsY a _) rfl fun g => ?_
    exact Runs.of_outX tys_ok mixed (d a g) trivial (idsY a _) rfl fun g' => EndsM.ret (yr a _ g') rfl
end v
def spec (I : B32 → List Int → SV) : List PArg → Option (SV × LEff × Cst)
  | [.val v, .win .u8 ys n ty] => match cB32.dec v with
    | some b => some (I b ys, .none, [n ≤ 140737488353900])
    | none => none
  | [.val v, .val (.o (.a (.v (.slice _ 0 0))))] => match cB32.dec v with
    | some b => some (I b [], .none, [])
    | none => none
  | _ => none
noncomputable def con (I : B32 → List Int → SV) (hI : I = inR) : Con Tryd.prog G2 := Con.parts tys_ok 42 fn Tryd.func42 (by kernel_rfl) (c := body) (by kernel_rfl) [.val, .win .u8] (spec I)
  (fun ps r e p h hp => by
    subst hI
    unfold spec at h
    split at h
    · split at h <;> cases h
      exact ⟨inR_ids _ _, fun b hb => by simp only [locBlks, PArg.blk, List.nil_append, List.append_nil, List.mem_singleton] at hb; rw [hb]⟩
    · split at h <;> cases h
      exact ⟨inR_ids _ _, fun b hb => by cases hb⟩
    · cases h)
  (fun ps r e p cap h hp hi => by
    subst hI
    unfold spec at h
    split at h
    · split at h <;> cases h
      rename_i b hb
      have := cB32.ok _ _ hb
      subst this
      exact w.run b _ _ _ _ hi.2.1.1 hp.1
    · split at h <;> cases h
      rename_i b hb
      have := cB32.ok _ _ hb
      subst this
      exact v.run b _
    · cases h)
end vin
end Go.Proofs.YtbfndladaldajaaDoor
/- Package vrf: the number that five points come to: walk, contract. -/
namespace Go.Proofs.YtbfndladaldajaaDoor
open Go Go.Eng Go.RowKit
set_option linter.unusedVariables false
set_option linter.unusedSimpArgs false
set_option maxRecDepth 100000
structure P5 where
  p1 : B32
  p2 : B32
  p3 : B32
  p4 : B32
  p5 : B32
def en5 (x : P5) : List Atom := cB32.row x.p1 ++ (cB32.row x.p2 ++ (cB32.row x.p3 ++ (cB32.row x.p4 ++ cB32.row x.p5)))
def de5 (cs : List Atom) : Option P5 :=
  match cB32.dec (.o (.g (cs.take 32))), cB32.dec (.o (.g ((cs.drop 32).take 32))), cB32.dec (.o (.g ((cs.drop 64).take 32))), cB32.dec (.o (.g ((cs.drop 96).take 32))), cB32.dec (.o (.g (cs.drop 128))) with
  | some a, some b, some c, some d, some e => some ⟨a, b, c, d, e⟩
  | _, _, _, _, _ => none
theorem row_of {a : B32} {cs : List Atom} (h : cB32.dec (.o (.g cs)) = some a) : cs = cB32.row a := by
  have := cB32.ok _ _ h
  unfold Cod.row
  rw [this]
theorem de5_en (cs : List Atom) (a : P5) (h : de5 cs = some a) : cs = en5 a := by
  unfold de5 at h
  split at h <;> cases h
  rename_i h1 h2 h3 h4 h5
  unfold en5
  rw [← row_of h1, ← row_of h2, ← row_of h3, ← row_of h4, ← row_of h5]
  have e : ∀ n, (cs.drop n).take 32 ++ cs.drop (n + 32) = cs.drop n := fun n => by
    rw [← List.drop_drop]
    exact List.take_append_drop 32 _
  rw [e 96, e 64, e 32]
  exact (List.take_append_drop 32 cs).symm
theorem idsAll_app (a b : List Atom) : idsAll (a ++ b) = idsAll a ++ idsAll b := by
  induction a with
  | nil => rfl
  | cons x r ih => simp [idsAll, ih]
theorem row_ids (a : B32) : idsAll (cB32.row a) = [] := cB32.ids a
theorem en5_ids (x : P5) : idsAll (en5 x) = [] := by
  unfold en5
  rw [idsAll_app, idsAll_app, idsAll_app, idsAll_app, row_ids, row_ids, row_ids, row_ids, row_ids]
  rfl
def ch16 (d : B64) : B32 := ⟨d.b0, d.b1, d.b2, d.b3, d.b4, d.b5, d.b6, d.b7, d.b8, d.b9, d.b10, d.b11, d.b12, d.b13, d.b14, d.b15, 0, 0, 0, 0, 0, 0, 0, 0, 0, 0, 0, 0, 0, 0, 0, 0⟩
def chB (x : P5) : List Int := [3, 2] ++ x.p1.to ++ x.p2.to ++ x.p3.to ++ x.p4.to ++ x.p5.to ++ [0]
noncomputable def chlV (x : P5) : B32 := ch16 (s512V (chB x))
namespace chl
noncomputable abbrev fn := Tryd.f46
noncomputable def body : Code := bodyOf fn
noncomputable def T2 : Code := csuf 2 body
noncomputable def A : Code := cs1 (cs1 T2)
noncomputable def L : Code := cL (cB (cs2 (cs1 T2)))
noncomputable def D : Code := cs2 T2
noncomputable def Γ : Cons Tryd.prog G2 := [s512_con]
theorem suf_eq : csuf 2 body = .seq (.seq A (.block 0 (.loop L))) D := by kernel_rfl
abbrev arg : SV := .o (.a (.slc 0 0 5 5))
def M0 (x : P5) (ty : TypeId) : List (Option SV) := maskL 27 0 [(0, arg), (2, .o (.a (.ptr 1 0))), (3, .o (.a (.slc 2 0 2 2)))]
def M1 (x : P5) (ty : TypeId) : List (Option SV) := maskL 27 0 [(2, .o (.a (.ptr 1 0))), (3, .o (.a (.slc 2 0 2 2))), (9, arg), (10, .o (.a (.v (.int .i64 5)))), (11, .o (.a (.v (.int .i64 0))))]
def M2 (x : P5) (ty : TypeId) (i : Int) (n : Nat) : List (Option SV) := maskL 27 0 [(2, .o (.a (.ptr 1 0))), (3, .o (.a (.slg 2 n))), (9, arg), (10, .o (.a (.v (.int .i64 5)))), (11, .o (.a (.v (.int .i64 i))))]
def MZ (x : P5) (ty : TypeId) (n : Nat) : List (Option SV) := maskL 27 0 [(2, .o (.a (.ptr 1 0))), (3, .o (.a (.slg 2 n)))]
def args (x : P5) (ty : TypeId) : List Blk := [⟨false, ty, .lit (en5 x)⟩]
def mem0 (x : P5) (ty : TypeId) : List Blk := args x ty ++ [⟨true, 24, .lit (cB32.row zeroB)⟩, ⟨true, 5, .lit [int1 .u8 3, int1 .u8 2]⟩]
def mem (x : P5) (ty : TypeId) (xs : List Int) (lo : Nat) (hi : Option Nat) : List Blk := args x ty ++ [⟨true, 24, .lit (cB32.row zeroB)⟩, ⟨true, 5, .gro .u8 xs lo hi⟩]
theorem ids0 (x : P5) (ty : TypeId) : idsIn (mem0 x ty).length (M0 x ty) (mem0 x ty) = true := by kernel_rfl
theorem ids1 (x : P5) (ty : TypeId) : idsIn (mem0 x ty).length (M1 x ty) (mem0 x ty) = true := by kernel_rfl
theorem ids2 (x : P5) (ty : TypeId) (xs : List Int) (lo : Nat) (hi : Option Nat) (i : Int) (n : Nat) : idsIn (mem x ty xs lo hi).length (M2 x ty i n) (mem x ty xs lo hi) = true := by kernel_rfl
theorem idsZ (x : P5) (ty : TypeId) (xs : List Int) (lo : Nat) (hi : Option Nat) (n : Nat) : idsIn (mem x ty xs lo hi).length (MZ x ty n) (mem x ty xs lo hi) = true := by kernel_rfl
theorem s0 (x : P5) (ty : TypeId) : outX (mem0 x ty).length (M0 x ty) (exec Γ tys 100 (cpre 2 body) ⟨startT fn [arg], args x ty, []⟩) = some (.normal, live (M0 x ty), (M0 x ty).length, mem0 x ty, []) := by kernel_rfl
theorem a (x : P5) (ty : TypeId) (g : Nat → SV) : outX (mem0 x ty).length (M1 x ty) (exec Γ tys 100 A ⟨fill g 0 (M0 x ty), mem0 x ty, []⟩) = some (.normal, live (M1 x ty), (M1 x ty).length, mem0 x ty, []) := by kernel_rfl
theorem i0 (x : P5) (ty : TypeId) (g : Nat → SV) : outN [0, 1, 4] (M2 x ty 1 34) (exec Γ tys 100 L ⟨fill g 0 (M1 x ty), mem0 x ty, []⟩) = some (.normal, (live (M2 x ty 1 34)).map (SV.ren (piF [0, 1, 4])), (M2 x ty 1 34).length, (mem x ty ([3, 2] ++ x.p1.to) 34 none).map (fun b => some (b.ren (piF [0, 1, 4]))), [0 + 32 ≤ 32, 2 ≤ 2, 2 < 34, Room Tryd.prog 5 34]) := by kernel_rfl
theorem i1 (x : P5) (ty : TypeId) (xs : List Int) (lo : Nat) (g : Nat → SV) : outX (mem x ty (xs ++ x.p2.to) 66 none).length (M2 x ty 2 66) (exec Γ tys 100 L ⟨fill g 0 (M2 x ty 1 34), mem x ty xs 66 none, []⟩) = some (.normal, live (M2 x ty 2 66), (M2 x ty 2 66).length, mem x ty (xs ++ x.p2.to) 66 none, [0 + 32 ≤ 32, 34 = xs.length, 66 ≤ 66]) := by kernel_rfl
theorem j1 (x : P5) (ty : TypeId) (xs : List Int) (lo : Nat) (g : Nat → SV) : outN [0, 1, 4] (M2 x ty 2 66) (exec Γ tys 100 L ⟨fill g 0 (M2 x ty 1 34), mem x ty xs lo (some 66), []⟩) = some (.normal, (live (M2 x ty 2 66)).map (SV.ren (piF [0, 1, 4])), (M2 x ty 2 66).length, (mem x ty (xs ++ x.p2.to) 66 none).map (fun b => some (b.ren (piF [0, 1, 4]))), [0 + 32 ≤ 32, 34 = xs.length, 66 ≤ 66, Room Tryd.prog 5 66]) := by kernel_rfl
theorem i2 (x : P5) (ty : TypeId) (xs : List Int) (lo : Nat) (g : Nat → SV) : outX (mem x ty (xs ++ x.p3.to) 98 none).length (M2 x ty 3 98) (exec Γ tys 100 L ⟨fill g 0 (M2 x ty 2 66), mem x ty xs 98 none, []⟩) = some (.normal, live (M2 x ty 3 98), (M2 x ty 3 98).length, mem x ty (xs ++ x.p3.to) 98 none, [0 + 32 ≤ 32, 66 = xs.length, 98 ≤ 98]) := by kernel_rfl
theorem j2 (x : P5) (ty : TypeId) (xs : List Int) (lo : Nat) (g : Nat → SV) : outN [0, 1, 4] (M2 x ty 3 98) (exec Γ tys 100 L ⟨fill g 0 (M2 x ty 2 66), mem x ty xs lo (some 98), []⟩) = some (.normal, (live (M2 x ty 3 98)).map (SV.ren (piF [0, 1, 4])), (M2 x ty 3 98).length, (mem x ty (xs ++ x.p3.to) 98 none).map (fun b => some (b.ren (piF [0, 1, 4]))), [0 + 32 ≤ 32, 66 = xs.length, 98 ≤ 98, Room Tryd.prog 5 98]) := by kernel_rfl
theorem i3 (x : P5) (ty : TypeId) (xs : List Int) (lo : Nat) (g : Nat → SV) : outX (mem x ty (xs ++ x.p4.to) 130 none).length (M2 x ty 4 130) (exec Γ tys 100 L ⟨fill g 0 (M2 x ty 3 98), mem x ty xs 130 none, []⟩) = some (.normal, live (M2 x ty 4 130), (M2 x ty 4 130).length, mem x ty (xs ++ x.p4.to) 130 none, [0 + 32 ≤ 32, 98 = xs.length, 130 ≤ 130]) := by kernel_rfl
theorem j3 (x : P5) (ty : TypeId) (xs : List Int) (lo : Nat) (g : Nat → SV) : outN [0, 1, 4] (M2 x ty 4 130) (exec Γ tys 100 L ⟨fill g 0 (M2 x ty 3 98), mem x ty xs lo (some 130), []⟩) = some (.normal, (live (M2 x ty 4 130)).map (SV.ren (piF [0, 1, 4])), (M2 x ty 4 130).length, (mem x ty (xs ++ x.p4.to) 130 none).map (fun b => some (b.ren (piF [0, 1, 4]))), [0 + 32 ≤ 32, 98 = xs.length, 130 ≤ 130, Room Tryd.prog 5 130]) := by kernel_rfl
theorem i4 (x : P5) (ty : TypeId) (xs : List Int) (lo : Nat) (g : Nat → SV) : outX (mem x ty (xs ++ x.p5.to) 162 none).length (M2 x ty 5 162) (exec Γ tys 100 L ⟨fill g 0 (M2 x ty 4 130), mem x ty xs 162 none, []⟩) = some (.normal, live (M2 x ty 5 162), (M2 x ty 5 162).length, mem x ty (xs ++ x.p5.to) 162 none, [0 + 32 ≤ 32, 130 = xs.length, 162 ≤ 162]) := by kernel_rfl
theorem j4 (x : P5) (ty : TypeId) (xs : List Int) (lo : Nat) (g : Nat → SV) : outN [0, 1, 4] (M2 x ty 5 162) (exec Γ tys 100 L ⟨fill g 0 (M2 x ty 4 130), mem x ty xs lo (some 162), []⟩) = some (.normal, (live (M2 x ty 5 162)).map (SV.ren (piF [0, 1, 4])), (M2 x ty 5 162).length, (mem x ty (xs ++ x.p5.to) 162 none).map (fun b => some (b.ren (piF [0, 1, 4]))), [0 + 32 ≤ 32, 130 = xs.length, 162 ≤ 162, Room Tryd.prog 5 162]) := by kernel_rfl
theorem hz (x : P5) (ty : TypeId) (xs : List Int) (g : Nat → SV) : outX (mem x ty xs 162 none).length (MZ x ty 162) (exec Γ tys 100 L ⟨fill g 0 (M2 x ty 5 162), mem x ty xs 162 none, []⟩) = some (.exit 0, live (MZ x ty 162), (MZ x ty 162).length, mem x ty xs 162 none, []) := by kernel_rfl
noncomputable def finf (x : P5) (ty : TypeId) (xs : List Int) (d : B64) (g : Nat → SV) : St := outS Γ tys 100 D ⟨fill g 0 (MZ x ty 162), mem x ty xs 163 none, [(22, [.s (cB64.enc d)])]⟩
theorem df (x : P5) (ty : TypeId) (xs : List Int) (d : B64) (g : Nat → SV) : exec Γ tys 100 D ⟨fill g 0 (MZ x ty 162), mem x ty xs 163 none, [(22, [.s (cB64.enc d)])]⟩ = some (.ret, ⟨(finf x ty xs d g).tm, (finf x ty xs d g).mem, (finf x ty xs d g).orc⟩, [0 + 1 ≤ 1, 162 = xs.length, 163 ≤ 163, 0 + 163 ≤ (xs ++ [0]).length, 163 ≤ 163, cB64.enc (s512V (((xs ++ [0]).drop 0).take 163)) = cB64.enc d, 16 ≤ 64, 16 ≤ 32]) := by kernel_rfl
theorem rf (x : P5) (ty : TypeId) (xs : List Int) (d : B64) (g : Nat → SV) : eRes tys (finf x ty xs d g).tm (fun k => (finf x ty xs d g).mem[k]?) fn.results.toList = some [.g (cB32.row (ch16 d))] := by kernel_rfl
noncomputable def fink (x : P5) (ty : TypeId) (xs : List Int) (d : B64) (g : Nat → SV) : St := outS Γ tys 100 D ⟨fill g 0 (MZ x ty 162), mem x ty xs 162 (some 163), [(22, [.s (cB64.enc d)])]⟩
theorem dk (x : P5) (ty : TypeId) (xs : List Int) (d : B64) (g : Nat → SV) : exec Γ tys 100 D ⟨fill g 0 (MZ x ty 162), mem x ty xs 162 (some 163), [(22, [.s (cB64.enc d)])]⟩ = some (.ret, ⟨(fink x ty xs d g).tm, (fink x ty xs d g).mem, (fink x ty xs d g).orc⟩, [0 + 1 ≤ 1, 162 = xs.length, 163 ≤ 163, Room Tryd.prog 5 163, 0 + 163 ≤ (xs ++ [0]).length, 163 ≤ 163, cB64.enc (s512V (((xs ++ [0]).drop 0).take 163)) = cB64.enc d, 16 ≤ 64, 16 ≤ 32]) := by kernel_rfl
theorem rk (x : P5) (ty : TypeId) (xs : List Int) (d : B64) (g : Nat → SV) : eRes tys (fink x ty xs d g).tm (fun k => (fink x ty xs d g).mem[k]?) fn.results.toList = some [.g (cB32.row (ch16 d))] := by kernel_rfl
theorem turn {i n : Nat} {T : List SV} {xs : List Int} {x : P5} {ty : TypeId} {Post : Ex → List SV → List Blk → Prop}
    (h1 : RunsF Tryd.prog G2 1 L T (mem x ty xs (n + 32) none) Post) (h2 : RunsF Tryd.prog G2 1 L T (mem x ty xs n (some (n + 32))) Post) : RunsF Tryd.prog G2 1 L T (mem x ty xs n none) Post :=
  Runs.room 2 (n + 32) (own := true) (ty := 5) (kd := .u8) (xs := xs) (lo := n) rfl h1 h2
def Mx (x : P5) (ty : TypeId) : Nat → List (Option SV)
  | 0 => M1 x ty
  | 1 => M2 x ty 1 34
  | 2 => M2 x ty 2 66
  | 3 => M2 x ty 3 98
  | 4 => M2 x ty 4 130
  | _ => M2 x ty 5 162
def Bx (x : P5) (ty : TypeId) : Nat → List Blk
  | 0 => mem0 x ty
  | 1 => mem x ty ([3, 2] ++ x.p1.to) 34 none
  | 2 => mem x ty ([3, 2] ++ x.p1.to ++ x.p2.to) 66 none
  | 3 => mem x ty ([3, 2] ++ x.p1.to ++ x.p2.to ++ x.p3.to) 98 none
  | 4 => mem x ty ([3, 2] ++ x.p1.to ++ x.p2.to ++ x.p3.to ++ x.p4.to) 130 none
  | _ => mem x ty ([3, 2] ++ x.p1.to ++ x.p2.to ++ x.p3.to ++ x.p4.to ++ x.p5.to) 162 none
theorem run (x : P5) (ty : TypeId) : RunsF Tryd.prog G2 1 body (startT fn [arg]) (args x ty) (EndsM tys fn (endsQ (cB32.enc (chlV x)) .none)) := by
  refine Runs.of_outXP tys_ok mixed 2 (s0 x ty) trivial (ids0 x ty) rfl fun g => ?_
  rw [suf_eq]
  refine Runs.seq (Runs.seq (Runs.of_outX tys_ok mixed (a x ty g) trivial (ids1 x ty) rfl fun g => ?_))
  refine Runs.block ?_
  refine Runs.loopX (Mx x ty) (Bx x ty) (fun i => i ≤ 5) (fun i => 5 - i) ?_ 0 (by omega) g
  intro i g hi
  match i, hi with
  | 0, _ => exact Runs.of_outN tys_ok mixed _ (i0 x ty g) ⟨by omega, by omega, by omega, roomU _ (by omega), trivial⟩ (ids2 x ty _ _ _ _ _) rfl fun g' => ⟨1, g', rfl, rfl, by omega, by omega⟩
  | 1, _ =>
    refine turn (i := 1) (n := 34) ?_ ?_
    · exact Runs.of_outX tys_ok mixed (i1 x ty _ 0 g) ⟨by omega, rfl, by omega, trivial⟩ (ids2 x ty _ _ _ _ _) rfl fun g' => ⟨2, g', rfl, rfl, by omega, by omega⟩
    · exact Runs.of_outN tys_ok mixed _ (j1 x ty _ 34 g) ⟨by omega, rfl, by omega, roomU _ (by omega), trivial⟩ (ids2 x ty _ _ _ _ _) rfl fun g' => ⟨2, g', rfl, rfl, by omega, by omega⟩
  | 2, _ =>
    refine turn (i := 2) (n := 66) ?_ ?_
    · exact Runs.of_outX tys_ok mixed (i2 x ty _ 0 g) ⟨by omega, rfl, by omega, trivial⟩ (ids2 x ty _ _ _ _ _) rfl fun g' => ⟨3, g', rfl, rfl, by omega, by omega⟩
    · exact Runs.of_outN tys_ok mixed _ (j2 x ty _ 66 g) ⟨by omega, rfl, by omega, roomU _ (by omega), trivial⟩ (ids2 x ty _ _ _ _ _) rfl fun g' => ⟨3, g', rfl, rfl, by omega, by omega⟩
  | 3, _ =>
    refine turn (i := 3) (n := 98) ?_ ?_
    · exact Runs.of_outX tys_ok mixed (i3 x ty _ 0 g) ⟨by omega, rfl, by omega, trivial⟩ (ids2 x ty _ _ _ _ _) rfl fun g' => ⟨4, g', rfl, rfl, by omega, by omega⟩
    · exact Runs.of_outN tys_ok mixed _ (j3 x ty _ 98 g) ⟨by omega, rfl, by omega, roomU _ (by omega), trivial⟩ (ids2 x ty _ _ _ _ _) rfl fun g' => ⟨4, g', rfl, rfl, by omega, by omega⟩
  | 4, _ =>
    refine turn (i := 4) (n := 130) ?_ ?_
    · exact Runs.of_outX tys_ok mixed (i4 x ty _ 0 g) ⟨by omega, rfl, by omega, trivial⟩ (ids2 x ty _ _ _ _ _) rfl fun g' => ⟨5, g', rfl, rfl, by omega, by omega⟩
    · exact Runs.of_outN tys_ok mixed _ (j4 x ty _ 130 g) ⟨by omega, rfl, by omega, roomU _ (by omega), trivial⟩ (ids2 x ty _ _ _ _ _) rfl fun g' => ⟨5, g', rfl, rfl, by omega, by omega⟩
  | 5, _ =>
    refine Runs.of_outX tys_ok mixed (hz x ty _ g) trivial (idsZ x ty _ _ _ _) rfl fun g => ?_
    have e : (([3, 2] ++ x.p1.to ++ x.p2.to ++ x.p3.to ++ x.p4.to ++ x.p5.to ++ [0]).drop 0).take 163 = chB x := dt0 _ _ rfl
    refine Runs.room 2 163 (own := true) (ty := 5) (kd := .u8) (xs := [3, 2] ++ x.p1.to ++ x.p2.to ++ x.p3.to ++ x.p4.to ++ x.p5.to) (lo := 162) rfl ?_ ?_
    · exact Runs.of_exec tys_ok mixed (df x ty _ (s512V (chB x)) g) ⟨by omega, rfl, by omega, Nat.le_refl _, by omega, by rw [e], by omega, by omega, trivial⟩ (EndsM.ret (rf x ty _ _ g) rfl)
    · exact Runs.of_exec tys_ok mixed (dk x ty _ (s512V (chB x)) g) ⟨by omega, rfl, by omega, roomU _ (by omega), Nat.le_refl _, by omega, by rw [e], by omega, by omega, trivial⟩ (EndsM.ret (rk x ty _ _ g) rfl)
def Dc (C : P5 → B32) : Dec Tryd.prog (ArrA P5) := Dec.arr Tryd.prog de5 en5 de5_en en5_ids 5 (fun x => cB32.enc (C x)) (fun _ => []) (fun _ => cB32.ids _)
noncomputable def con (C : P5 → B32) (hC : C = chlV) : Con Tryd.prog G2 := Con.hand tys_ok 46 fn Tryd.func46 (by kernel_rfl) (c := body) (by kernel_rfl) (Dc C)
  (fun x hc hi => by
    subst hC
    obtain ⟨x, ty⟩ := x
    exact run x ty)
end chl
end Go.Proofs.YtbfndladaldajaaDoor
/- Package vrf: Prove, Verify: walks, contracts. -/
namespace Go.Proofs.YtbfndladaldajaaDoor
open Go Go.Eng Go.RowKit
set_option linter.unusedVariables false
set_option linter.unusedSimpArgs false
set_option maxRecDepth 100000
def cat80 (a b c : B32) : B80 := ⟨a.b0, a.b1, a.b2, a.b3, a.b4, a.b5, a.b6, a.b7, a.b8, a.b9, a.b10, a.b11, a.b12, a.b13, a.b14, a.b15, a.b16, a.b17, a.b18, a.b19, a.b20, a.b21, a.b22, a.b23, a.b24, a.b25, a.b26, a.b27, a.b28, a.b29, a.b30, a.b31, b.b0, b.b1, b.b2, b.b3, b.b4, b.b5, b.b6, b.b7, b.b8, b.b9, b.b10, b.b11, b.b12, b.b13, b.b14, b.b15, c.b0, c.b1, c.b2, c.b3, c.b4, c.b5, c.b6, c.b7, c.b8, c.b9, c.b10, c.b11, c.b12, c.b13, c.b14, c.b15, c.b16, c.b17, c.b18, c.b19, c.b20, c.b21, c.b22, c.b23, c.b24, c.b25, c.b26, c.b27, c.b28, c.b29, c.b30, c.b31⟩
theorem g_cat (a b c : B32) : g80 (cat80 a b c) = a := rfl
theorem t_cat (a b c : B32) : t80 (cat80 a b c) = c := rfl
def pairP (x : B80) (e : Int) : SV := .t [.g (cB80.row x), .a (int1 .i64 e)]
noncomputable def eV (b : B32) (m : List Int) : P20 := inP (pubV b) m
noncomputable def phV (b : B32) (m : List Int) : B32 := encP (eV b m)
noncomputable def pgV (b : B32) (m : List Int) : B32 := encP (oftenP (eV b m) (numV b))
noncomputable def pkV (b : B32) (m : List Int) : B32 := hashV (catL [(pfxV b).to, (phV b m).to])
noncomputable def puV (b : B32) (m : List Int) : B32 := pbaseB (pkV b m)
noncomputable def pvV (b : B32) (m : List Int) : B32 := encP (oftenP (eV b m) (pkV b m))
noncomputable def pcV (b : B32) (m : List Int) : B32 := chlV ⟨pubV b, phV b m, pgV b m, puV b m, pvV b m⟩
noncomputable def ptV' (b : B32) (m : List Int) : B32 := smulB (pcV b m) (numV b) (pkV b m)
noncomputable def prfV (b : B32) (m : List Int) : B80 := cat80 (pgV b m) (pcV b m) (ptV' b m)
noncomputable def prvR (b : B32) (m : List Int) : SV := bif inOk (pubV b) m then pairP (prfV b m) 0 else pairP zeroB80 4
theorem prvR_ids (b : B32) (m : List Int) : (prvR b m).ids = [] := by
  unfold prvR
  cases inOk (pubV b) m <;> rfl
theorem ch16_ok (d : B64) (h : ∀ i, 0 ≤ d.at i ∧ d.at i < 256) : BOk (ch16 d) := by
  intro i
  have hz : (0 : Int) ≤ 0 ∧ (0 : Int) < 256 := by decide
  unfold ch16 B32.at
  split
  · exact h 0
  · exact h 1
  · exact h 2
  · exact h 3
  · exact h 4
  · exact h 5
  · exact h 6
  · exact h 7
  · exact h 8
  · exact h 9
  · exact h 10
  · exact h 11
  · exact h 12
  · exact h 13
  · exact h 14
  · exact h 15
  · exact hz
  · exact hz
  · exact hz
  · exact hz
  · exact hz
  · exact hz
  · exact hz
  · exact hz
  · exact hz
  · exact hz
  · exact hz
  · exact hz
  · exact hz
  · exact hz
  · exact hz
  · exact hz
theorem ch_bytes (x : P5) : BOk (chlV x) := ch16_ok _ (s512V_byte _)
namespace prv
noncomputable abbrev fn := Tryd.f22
noncomputable def body : Code := bodyOf fn
noncomputable def Γ (I : B32 → List Int → SV) (hI : I = inR) (H : List Int → B32) (hH : H = hashV) (C : P5 → B32) (hC : C = chlV) : Cons Tryd.prog G2 := [expand_con, vin.con I hI, pbytes_con.lift gx_g2, ptimes_con.lift gx_g2, hash_con H hH, pbase_con.lift gx_g2, chl.con C hC, scu_con]
theorem exwn (I : B32 → List Int → SV) (hI : I = inR) (H : List Int → B32) (hH : H = hashV) (C : P5 → B32) (hC : C = chlV) (b : B32) (x : Sec) (E : P20) (ys : List Int) (n c : Nat) (ty : TypeId) : runOutM (Γ I hI H hH C hC) tys fn 100 [⟨false, ty, .pre .u8 ys⟩] [cB32.enc b, .o (.a (.sld 0 0 0 n c))] [(16, [.s (cSec.enc x)]), (21, [.s (flagP E false)])] = some (pairP zeroB80 4, [cSec.enc (secV b) = cSec.enc x, 0 + n ≤ ys.length, n ≤ c, n ≤ 140737488353900, I x.q ((ys.drop 0).take n) = flagP E false]) := by kernel_rfl
theorem exwy (I : B32 → List Int → SV) (hI : I = inR) (H : List Int → B32) (hH : H = hashV) (C : P5 → B32) (hC : C = chlV) (b : B32) (x : Sec) (E T V : P20) (h g k u w c' t : B32) (ys : List Int) (n c : Nat) (ty : TypeId) : runOutM (Γ I hI H hH C hC) tys fn 100 [⟨false, ty, .pre .u8 ys⟩] [cB32.enc b, .o (.a (.sld 0 0 0 n c))] [(16, [.s (cSec.enc x)]), (21, [.s (flagP E true)]), (28, [.s (cB32.enc h)]), (32, [.s (cP.enc T)]), (33, [.s (cB32.enc g)]), (38, [.s (cB32.enc k)]), (44, [.s (cB32.enc u)]), (47, [.s (cP.enc V)]), (48, [.s (cB32.enc w)]), (50, [.s (cB32.enc c')]), (55, [.s (cB32.enc t)])] = some (pairP (cat80 g c' t) 0, [cSec.enc (secV b) = cSec.enc x, 0 + n ≤ ys.length, n ≤ c, n ≤ 140737488353900, I x.q ((ys.drop 0).take n) = flagP E true, cB32.enc (encP E) = cB32.enc h, Nib x.s, cP.enc (oftenP E x.s) = cP.enc T, cB32.enc (encP T) = cB32.enc g, 32 ≤ 64, 32 ≤ 32, 0 < ([x.p.to, h.to].headD []).length, (catL [x.p.to, h.to]).length ≤ 140737488355328, cB32.enc (H (catL [x.p.to, h.to])) = cB32.enc k, Nib k, cB32.enc (pbaseB k) = cB32.enc u, Nib k, cP.enc (oftenP E k) = cP.enc V, cB32.enc (encP V) = cB32.enc w, cB32.enc (C ⟨x.q, h, g, u, w⟩) = cB32.enc c', ∀ i, 0 ≤ c'.at i ∧ c'.at i < 256, ∀ i, 0 ≤ x.s.at i ∧ x.s.at i < 256, ∀ i, 0 ≤ k.at i ∧ k.at i < 256, cB32.enc (smulB c' x.s k) = cB32.enc t, 32 ≤ 32, 32 ≤ 80, 16 ≤ 32, 16 ≤ 48, 32 ≤ 32, 32 ≤ 32]) := by kernel_rfl
theorem runw (b : B32) (ys : List Int) (n c : Nat) (ty : TypeId) (hy : ys.length = n) (hc : n ≤ c) (hn : n ≤ 140737488353900) : RunsF Tryd.prog G2 1 body (startT fn [cB32.enc b, .o (.a (.sld 0 0 0 n c))]) ([⟨false, ty, .pre .u8 ys⟩]) (EndsM tys fn (endsQ (prvR b ys) .none)) := by
  have hb : fn.body = some body := by kernel_rfl
  have hl : ∀ q : B32, q.to.length = 32 := fun _ => rfl
  have e := dt0 ys n hy
  unfold prvR
  cases h1 : inOk (pubV b) ys with
  | false =>
    rw [cond_false]
    exact runs_of_out tys_ok mixed hb (exwn inR rfl hashV rfl chlV rfl b (secV b) nilP ys n c ty) ⟨rfl, by omega, hc, hn, (show inR (pubV b) ((ys.drop 0).take n) = _ by rw [e]; unfold inR; rw [h1, cond_false]), trivial⟩
  | true =>
    rw [cond_true]
    exact runs_of_out tys_ok mixed hb (exwy inR rfl hashV rfl chlV rfl b (secV b) (eV b ys) (oftenP (eV b ys) (numV b)) (oftenP (eV b ys) (pkV b ys)) (phV b ys) (pgV b ys) (pkV b ys) (puV b ys) (pvV b ys) (pcV b ys) (ptV' b ys) ys n c ty) ⟨rfl, by omega, hc, hn, (show inR (pubV b) ((ys.drop 0).take n) = _ by rw [e]; unfold inR; rw [h1, cond_true]; rfl), rfl, nib_of (numV_ok b), rfl, rfl, by omega, by omega, by show 0 < 32; omega, by simp only [catL, List.length_append, List.length_nil, hl]; omega, rfl, nib_of (hashV_ok _), rfl, nib_of (hashV_ok _), rfl, rfl, rfl, ch_bytes _, numV_ok b, hashV_ok _, rfl, by omega, by omega, by omega, by omega, by omega, by omega, trivial⟩
theorem exvn (I : B32 → List Int → SV) (hI : I = inR) (H : List Int → B32) (hH : H = hashV) (C : P5 → B32) (hC : C = chlV) (b : B32) (x : Sec) (E : P20) (a : Option Addr) : runOutM (Γ I hI H hH C hC) tys fn 100 [] [cB32.enc b, .o (.a (.v (.slice a 0 0)))] [(16, [.s (cSec.enc x)]), (21, [.s (flagP E false)])] = some (pairP zeroB80 4, [cSec.enc (secV b) = cSec.enc x, I x.q [] = flagP E false]) := by kernel_rfl
theorem exvy (I : B32 → List Int → SV) (hI : I = inR) (H : List Int → B32) (hH : H = hashV) (C : P5 → B32) (hC : C = chlV) (b : B32) (x : Sec) (E T V : P20) (h g k u w c' t : B32) (a : Option Addr) : runOutM (Γ I hI H hH C hC) tys fn 100 [] [cB32.enc b, .o (.a (.v (.slice a 0 0)))] [(16, [.s (cSec.enc x)]), (21, [.s (flagP E true)]), (28, [.s (cB32.enc h)]), (32, [.s (cP.enc T)]), (33, [.s (cB32.enc g)]), (38, [.s (cB32.enc k)]), (44, [.s (cB32.enc u)]), (47, [.s (cP.enc V)]), (48, [.s (cB32.enc w)]), (50, [.s (cB32.enc c')]), (55, [.s (cB32.enc t)])] = some (pairP (cat80 g c' t) 0, [cSec.enc (secV b) = cSec.enc x, I x.q [] = flagP E true, cB32.enc (encP E) = cB32.enc h, Nib x.s, cP.enc (oftenP E x.s) = cP.enc T, cB32.enc (encP T) = cB32.enc g, 32 ≤ 64, 32 ≤ 32, 0 < ([x.p.to, h.to].headD []).length, (catL [x.p.to, h.to]).length ≤ 140737488355328, cB32.enc (H (catL [x.p.to, h.to])) = cB32.enc k, Nib k, cB32.enc (pbaseB k) = cB32.enc u, Nib k, cP.enc (oftenP E k) = cP.enc V, cB32.enc (encP V) = cB32.enc w, cB32.enc (C ⟨x.q, h, g, u, w⟩) = cB32.enc c', ∀ i, 0 ≤ c'.at i ∧ c'.at i < 256, ∀ i, 0 ≤ x.s.at i ∧ x.s.at i < 256, ∀ i, 0 ≤ k.at i ∧ k.at i < 256, cB32.enc (smulB c' x.s k) = cB32.enc t, 32 ≤ 32, 32 ≤ 80, 16 ≤ 32, 16 ≤ 48, 32 ≤ 32, 32 ≤ 32]) := by kernel_rfl
theorem runv (b : B32) (a : Option Addr) : RunsF Tryd.prog G2 0 body (startT fn [cB32.enc b, .o (.a (.v (.slice a 0 0)))]) ([]) (EndsM tys fn (endsQ (prvR b []) .none)) := by
  have hb : fn.body = some body := by kernel_rfl
  have hl : ∀ q : B32, q.to.length = 32 := fun _ => rfl
  unfold prvR
  cases h1 : inOk (pubV b) [] with
  | false =>
    rw [cond_false]
    exact runs_of_out tys_ok mixed hb (exvn inR rfl hashV rfl chlV rfl b (secV b) nilP a) ⟨rfl, (show inR (pubV b) [] = _ by unfold inR; rw [h1, cond_false]), trivial⟩
  | true =>
    rw [cond_true]
    exact runs_of_out tys_ok mixed hb (exvy inR rfl hashV rfl chlV rfl b (secV b) (eV b []) (oftenP (eV b []) (numV b)) (oftenP (eV b []) (pkV b [])) (phV b []) (pgV b []) (pkV b []) (puV b []) (pvV b []) (pcV b []) (ptV' b []) a) ⟨rfl, (show inR (pubV b) [] = _ by unfold inR; rw [h1, cond_true]; rfl), rfl, nib_of (numV_ok b), rfl, rfl, by omega, by omega, by show 0 < 32; omega, by simp only [catL, List.length_append, List.length_nil, hl]; omega, rfl, nib_of (hashV_ok _), rfl, nib_of (hashV_ok _), rfl, rfl, rfl, ch_bytes _, numV_ok b, hashV_ok _, rfl, by omega, by omega, by omega, by omega, by omega, by omega, trivial⟩
def spec (V : B32 → List Int → SV) : List PArg → Option (SV × LEff × Cst)
  | [.val v, .win .u8 ys n ty] => match cB32.dec v with
    | some b => some (V b ys, .none, [n ≤ 140737488353900])
    | none => none
  | [.val v, .val (.o (.a (.v (.slice _ 0 0))))] => match cB32.dec v with
    | some b => some (V b [], .none, [])
    | none => none
  | _ => none
noncomputable def con (V : B32 → List Int → SV) (hV : V = prvR) : Con Tryd.prog G2 := Con.parts tys_ok 22 fn Tryd.func22 (by kernel_rfl) (c := body) (by kernel_rfl) [.val, .win .u8] (spec V)
  (fun ps r e p h hp => by
    subst hV
    unfold spec at h
    split at h
    · split at h <;> cases h
      exact ⟨prvR_ids _ _, fun b hb => by simp only [locBlks, PArg.blk, List.nil_append, List.append_nil, List.mem_singleton] at hb; rw [hb]⟩
    · split at h <;> cases h
      exact ⟨prvR_ids _ _, fun b hb => by cases hb⟩
    · cases h)
  (fun ps r e p cap h hp hi => by
    subst hV
    unfold spec at h
    split at h
    · split at h <;> cases h
      rename_i b hb
      have := cB32.ok _ _ hb
      subst this
      exact runw b _ _ _ _ hi.2.1.1 hi.2.1.2 hp.1
    · split at h <;> cases h
      rename_i b hb
      have := cB32.ok _ _ hb
      subst this
      exact runv b _
    · cases h)
end prv
noncomputable def vuV (b : B32) (D : B80) : B32 := encP (plusP (oftenP baseP (t80 D)) (oftenP (negP (decP b)) (c80 D)))
noncomputable def vvV (b : B32) (m : List Int) (D : B80) : B32 := encP (plusP (oftenP (inP b m) (t80 D)) (oftenP (negP (decP (g80 D))) (c80 D)))
noncomputable def vcV (b : B32) (m : List Int) (D : B80) : B32 := chlV ⟨b, encP (inP b m), encP (decP (g80 D)), vuV b D, vvV b m D⟩
noncomputable def vfyR (b : B32) (m : List Int) (D : B80) : SV :=
  bif !decOk b then pairO zeroC 2 else bif !okV D then pairO zeroC 2 else bif orgV b then pairO zeroC 2 else bif !inOk b m then pairO zeroC 4 else
  bif eqB (vcV b m D) (c80 D) then pairO (outV (decP (g80 D))) 0 else pairO zeroC 3
noncomputable def vfX (b : B32) (m : List Int) (D : B80) : B64 := bif decOk b && (okV D && (!orgV b && (inOk b m && eqB (vcV b m D) (c80 D)))) then outV (decP (g80 D)) else zeroC
noncomputable def vfE (b : B32) (m : List Int) (D : B80) : Int :=
  bif !decOk b then 2 else bif !okV D then 2 else bif orgV b then 2 else bif !inOk b m then 4 else bif eqB (vcV b m D) (c80 D) then 0 else 3
theorem vfyR_pair (b : B32) (m : List Int) (D : B80) : vfyR b m D = pairO (vfX b m D) (vfE b m D) := by
  unfold vfyR vfX vfE
  cases decOk b
  · rfl
  cases okV D
  · rfl
  cases orgV b
  · cases inOk b m
    · rfl
    cases eqB (vcV b m D) (c80 D) <;> rfl
  · rfl
namespace vfy
noncomputable abbrev fn := Tryd.f24
noncomputable def body : Code := bodyOf fn
noncomputable def Γ (I : B32 → List Int → SV) (hI : I = inR) (C : P5 → B32) (hC : C = chlV) : Cons Tryd.prog G2 := [pof_con.lift gx_g2, parsed_con, pcleared_con.lift gx_g2, porigin_con.lift gx_g2, vin.con I hI, pointB_con.lift gx_g2, ptimes_con.lift gx_g2, pminus_con.lift gx_g2, pplus_con.lift gx_g2, pbytes_con.lift gx_g2, chl.con C hC, vout_con]
theorem exwa (I : B32 → List Int → SV) (hI : I = inR) (C : P5 → B32) (hC : C = chlV) (b : B32) (D : B80) (Y G : P20) (q : Bool) (ys : List Int) (n c : Nat) (ty : TypeId) : runOutM (Γ I hI C hC) tys fn 100 [⟨false, ty, .pre .u8 ys⟩] [cB32.enc b, .o (.a (.sld 0 0 0 n c)), cB80.enc D] [(19, [.s (flagP Y false)]), (24, [.s (parSV G (c80 D) (t80 D) q)])] = some (pairO zeroC 2, [flagP (decP b) (decOk b) = flagP Y false, ∀ i, 0 ≤ (t80 D).at i ∧ (t80 D).at i < 256, parSV (decP (g80 D)) (c80 D) (t80 D) (okV D) = parSV G (c80 D) (t80 D) q]) := by kernel_rfl
theorem exwb (I : B32 → List Int → SV) (hI : I = inR) (C : P5 → B32) (hC : C = chlV) (b : B32) (D : B80) (Y G : P20) (ys : List Int) (n c : Nat) (ty : TypeId) : runOutM (Γ I hI C hC) tys fn 100 [⟨false, ty, .pre .u8 ys⟩] [cB32.enc b, .o (.a (.sld 0 0 0 n c)), cB80.enc D] [(19, [.s (flagP Y true)]), (24, [.s (parSV G (c80 D) (t80 D) false)])] = some (pairO zeroC 2, [flagP (decP b) (decOk b) = flagP Y true, ∀ i, 0 ≤ (t80 D).at i ∧ (t80 D).at i < 256, parSV (decP (g80 D)) (c80 D) (t80 D) (okV D) = parSV G (c80 D) (t80 D) false]) := by kernel_rfl
theorem exwc (I : B32 → List Int → SV) (hI : I = inR) (C : P5 → B32) (hC : C = chlV) (b : B32) (D : B80) (Y G O : P20) (ys : List Int) (n c : Nat) (ty : TypeId) : runOutM (Γ I hI C hC) tys fn 100 [⟨false, ty, .pre .u8 ys⟩] [cB32.enc b, .o (.a (.sld 0 0 0 n c)), cB80.enc D] [(19, [.s (flagP Y true)]), (24, [.s (parSV G (c80 D) (t80 D) true)]), (37, [.s (cP.enc O)]), (38, [.s (cBool.enc true)])] = some (pairO zeroC 2, [flagP (decP b) (decOk b) = flagP Y true, ∀ i, 0 ≤ (t80 D).at i ∧ (t80 D).at i < 256, parSV (decP (g80 D)) (c80 D) (t80 D) (okV D) = parSV G (c80 D) (t80 D) true, cP.enc (clrP Y) = cP.enc O, cBool.enc (eqB (encP O) zeroPt) = cBool.enc true]) := by kernel_rfl
theorem exwd (I : B32 → List Int → SV) (hI : I = inR) (C : P5 → B32) (hC : C = chlV) (b : B32) (D : B80) (Y G O E : P20) (ys : List Int) (n c : Nat) (ty : TypeId) : runOutM (Γ I hI C hC) tys fn 100 [⟨false, ty, .pre .u8 ys⟩] [cB32.enc b, .o (.a (.sld 0 0 0 n c)), cB80.enc D] [(19, [.s (flagP Y true)]), (24, [.s (parSV G (c80 D) (t80 D) true)]), (37, [.s (cP.enc O)]), (38, [.s (cBool.enc false)]), (44, [.s (flagP E false)])] = some (pairO zeroC 4, [flagP (decP b) (decOk b) = flagP Y true, ∀ i, 0 ≤ (t80 D).at i ∧ (t80 D).at i < 256, parSV (decP (g80 D)) (c80 D) (t80 D) (okV D) = parSV G (c80 D) (t80 D) true, cP.enc (clrP Y) = cP.enc O, cBool.enc (eqB (encP O) zeroPt) = cBool.enc false, 0 + n ≤ ys.length, n ≤ c, n ≤ 140737488353900, I b ((ys.drop 0).take n) = flagP E false]) := by kernel_rfl
theorem exwe (I : B32 → List Int → SV) (hI : I = inR) (C : P5 → B32) (hC : C = chlV) (b : B32) (D : B80) (Y G O E T1 N1 M1 U T2 N2 M2 V : P20) (h g u w k : B32) (d : B64) (ys : List Int) (n c : Nat) (ty : TypeId) : runOutM (Γ I hI C hC) tys fn 100 [⟨false, ty, .pre .u8 ys⟩] [cB32.enc b, .o (.a (.sld 0 0 0 n c)), cB80.enc D] [(19, [.s (flagP Y true)]), (24, [.s (parSV G (c80 D) (t80 D) true)]), (37, [.s (cP.enc O)]), (38, [.s (cBool.enc false)]), (44, [.s (flagP E true)]), (52, [.s (cP.enc T1)]), (54, [.s (cP.enc N1)]), (56, [.s (cP.enc M1)]), (57, [.s (cP.enc U)]), (60, [.s (cP.enc T2)]), (62, [.s (cP.enc N2)]), (64, [.s (cP.enc M2)]), (65, [.s (cP.enc V)]), (68, [.s (cB32.enc h)]), (70, [.s (cB32.enc g)]), (72, [.s (cB32.enc u)]), (74, [.s (cB32.enc w)]), (76, [.s (cB32.enc k)]), (78, [.b true])] = some (pairO zeroC 3, [flagP (decP b) (decOk b) = flagP Y true, ∀ i, 0 ≤ (t80 D).at i ∧ (t80 D).at i < 256, parSV (decP (g80 D)) (c80 D) (t80 D) (okV D) = parSV G (c80 D) (t80 D) true, cP.enc (clrP Y) = cP.enc O, cBool.enc (eqB (encP O) zeroPt) = cBool.enc false, 0 + n ≤ ys.length, n ≤ c, n ≤ 140737488353900, I b ((ys.drop 0).take n) = flagP E true, Nib (t80 D), cP.enc (oftenP baseP (t80 D)) = cP.enc T1, cP.enc (negP Y) = cP.enc N1, Nib (c80 D), cP.enc (oftenP N1 (c80 D)) = cP.enc M1, cP.enc (plusP T1 M1) = cP.enc U, Nib (t80 D), cP.enc (oftenP E (t80 D)) = cP.enc T2, cP.enc (negP G) = cP.enc N2, Nib (c80 D), cP.enc (oftenP N2 (c80 D)) = cP.enc M2, cP.enc (plusP T2 M2) = cP.enc V, cB32.enc (encP E) = cB32.enc h, cB32.enc (encP G) = cB32.enc g, cB32.enc (encP U) = cB32.enc u, cB32.enc (encP V) = cB32.enc w, cB32.enc (C ⟨b, h, g, u, w⟩) = cB32.enc k, (!eqB k (c80 D)) = true]) := by kernel_rfl
theorem exwf (I : B32 → List Int → SV) (hI : I = inR) (C : P5 → B32) (hC : C = chlV) (b : B32) (D : B80) (Y G O E T1 N1 M1 U T2 N2 M2 V : P20) (h g u w k : B32) (d : B64) (ys : List Int) (n c : Nat) (ty : TypeId) : runOutM (Γ I hI C hC) tys fn 100 [⟨false, ty, .pre .u8 ys⟩] [cB32.enc b, .o (.a (.sld 0 0 0 n c)), cB80.enc D] [(19, [.s (flagP Y true)]), (24, [.s (parSV G (c80 D) (t80 D) true)]), (37, [.s (cP.enc O)]), (38, [.s (cBool.enc false)]), (44, [.s (flagP E true)]), (52, [.s (cP.enc T1)]), (54, [.s (cP.enc N1)]), (56, [.s (cP.enc M1)]), (57, [.s (cP.enc U)]), (60, [.s (cP.enc T2)]), (62, [.s (cP.enc N2)]), (64, [.s (cP.enc M2)]), (65, [.s (cP.enc V)]), (68, [.s (cB32.enc h)]), (70, [.s (cB32.enc g)]), (72, [.s (cB32.enc u)]), (74, [.s (cB32.enc w)]), (76, [.s (cB32.enc k)]), (78, [.b false]), (81, [.s (cB64.enc d)])] = some (pairO d 0, [flagP (decP b) (decOk b) = flagP Y true, ∀ i, 0 ≤ (t80 D).at i ∧ (t80 D).at i < 256, parSV (decP (g80 D)) (c80 D) (t80 D) (okV D) = parSV G (c80 D) (t80 D) true, cP.enc (clrP Y) = cP.enc O, cBool.enc (eqB (encP O) zeroPt) = cBool.enc false, 0 + n ≤ ys.length, n ≤ c, n ≤ 140737488353900, I b ((ys.drop 0).take n) = flagP E true, Nib (t80 D), cP.enc (oftenP baseP (t80 D)) = cP.enc T1, cP.enc (negP Y) = cP.enc N1, Nib (c80 D), cP.enc (oftenP N1 (c80 D)) = cP.enc M1, cP.enc (plusP T1 M1) = cP.enc U, Nib (t80 D), cP.enc (oftenP E (t80 D)) = cP.enc T2, cP.enc (negP G) = cP.enc N2, Nib (c80 D), cP.enc (oftenP N2 (c80 D)) = cP.enc M2, cP.enc (plusP T2 M2) = cP.enc V, cB32.enc (encP E) = cB32.enc h, cB32.enc (encP G) = cB32.enc g, cB32.enc (encP U) = cB32.enc u, cB32.enc (encP V) = cB32.enc w, cB32.enc (C ⟨b, h, g, u, w⟩) = cB32.enc k, (!eqB k (c80 D)) = false, cB64.enc (outV G) = cB64.enc d]) := by kernel_rfl
theorem runw (b : B32) (D : B80) (hD : D.Ok) (ys : List Int) (n c : Nat) (ty : TypeId) (hy : ys.length = n) (hc : n ≤ c) (hn : n ≤ 140737488353900) : RunsF Tryd.prog G2 1 body (startT fn [cB32.enc b, .o (.a (.sld 0 0 0 n c)), cB80.enc D]) ([⟨false, ty, .pre .u8 ys⟩]) (EndsM tys fn (endsQ (vfyR b ys D) .none)) := by
  have hb : fn.body = some body := by kernel_rfl
  have e := dt0 ys n hy
  unfold vfyR
  cases h1 : decOk b with
  | false =>
    rw [Bool.not_false, cond_true]
    exact runs_of_out tys_ok mixed hb (exwa inR rfl chlV rfl b D (decP b) (decP (g80 D)) (okV D) ys n c ty) ⟨congrArg (flagP _) h1, hD.2.2, rfl, trivial⟩
  | true =>
    rw [Bool.not_true, cond_false]
    cases h2 : okV D with
    | false =>
      rw [Bool.not_false, cond_true]
      exact runs_of_out tys_ok mixed hb (exwb inR rfl chlV rfl b D (decP b) (decP (g80 D)) ys n c ty) ⟨congrArg (flagP _) h1, hD.2.2, congrArg (parSV _ _ _) h2, trivial⟩
    | true =>
      rw [Bool.not_true, cond_false]
      cases h3 : orgV b with
      | true =>
        rw [cond_true]
        exact runs_of_out tys_ok mixed hb (exwc inR rfl chlV rfl b D (decP b) (decP (g80 D)) (clrP (decP b)) ys n c ty) ⟨congrArg (flagP _) h1, hD.2.2, congrArg (parSV _ _ _) h2, rfl, congrArg cBool.enc h3, trivial⟩
      | false =>
        rw [cond_false]
        cases h4 : inOk b ys with
        | false =>
          rw [Bool.not_false, cond_true]
          exact runs_of_out tys_ok mixed hb (exwd inR rfl chlV rfl b D (decP b) (decP (g80 D)) (clrP (decP b)) nilP ys n c ty) ⟨congrArg (flagP _) h1, hD.2.2, congrArg (parSV _ _ _) h2, rfl, congrArg cBool.enc h3, by omega, hc, hn, (show inR b ((ys.drop 0).take n) = _ by rw [e]; unfold inR; rw [h4, cond_false]), trivial⟩
        | true =>
          rw [Bool.not_true, cond_false]
          cases h5 : eqB (vcV b ys D) (c80 D) with
          | true =>
            rw [cond_true]
            exact runs_of_out tys_ok mixed hb (exwf inR rfl chlV rfl b D (decP b) (decP (g80 D)) (clrP (decP b)) (inP b ys) (oftenP baseP (t80 D)) (negP (decP b)) (oftenP (negP (decP b)) (c80 D)) (plusP (oftenP baseP (t80 D)) (oftenP (negP (decP b)) (c80 D))) (oftenP (inP b ys) (t80 D)) (negP (decP (g80 D))) (oftenP (negP (decP (g80 D))) (c80 D)) (plusP (oftenP (inP b ys) (t80 D)) (oftenP (negP (decP (g80 D))) (c80 D))) (encP (inP b ys)) (encP (decP (g80 D))) (vuV b D) (vvV b ys D) (vcV b ys D) (outV (decP (g80 D))) ys n c ty) ⟨congrArg (flagP _) h1, hD.2.2, congrArg (parSV _ _ _) h2, rfl, congrArg cBool.enc h3, by omega, hc, hn, (show inR b ((ys.drop 0).take n) = _ by rw [e]; unfold inR; rw [h4, cond_true]), nib_of hD.2.2, rfl, rfl, nib_of hD.2.1, rfl, rfl, nib_of hD.2.2, rfl, rfl, nib_of hD.2.1, rfl, rfl, rfl, rfl, rfl, rfl, rfl, by rw [h5]; rfl, rfl, trivial⟩
          | false =>
            rw [cond_false]
            exact runs_of_out tys_ok mixed hb (exwe inR rfl chlV rfl b D (decP b) (decP (g80 D)) (clrP (decP b)) (inP b ys) (oftenP baseP (t80 D)) (negP (decP b)) (oftenP (negP (decP b)) (c80 D)) (plusP (oftenP baseP (t80 D)) (oftenP (negP (decP b)) (c80 D))) (oftenP (inP b ys) (t80 D)) (negP (decP (g80 D))) (oftenP (negP (decP (g80 D))) (c80 D)) (plusP (oftenP (inP b ys) (t80 D)) (oftenP (negP (decP (g80 D))) (c80 D))) (encP (inP b ys)) (encP (decP (g80 D))) (vuV b D) (vvV b ys D) (vcV b ys D) (outV (decP (g80 D))) ys n c ty) ⟨congrArg (flagP _) h1, hD.2.2, congrArg (parSV _ _ _) h2, rfl, congrArg cBool.enc h3, by omega, hc, hn, (show inR b ((ys.drop 0).take n) = _ by rw [e]; unfold inR; rw [h4, cond_true]), nib_of hD.2.2, rfl, rfl, nib_of hD.2.1, rfl, rfl, nib_of hD.2.2, rfl, rfl, nib_of hD.2.1, rfl, rfl, rfl, rfl, rfl, rfl, rfl, by rw [h5]; rfl, trivial⟩
theorem exva (I : B32 → List Int → SV) (hI : I = inR) (C : P5 → B32) (hC : C = chlV) (b : B32) (D : B80) (Y G : P20) (q : Bool) (a : Option Addr) : runOutM (Γ I hI C hC) tys fn 100 [] [cB32.enc b, .o (.a (.v (.slice a 0 0))), cB80.enc D] [(19, [.s (flagP Y false)]), (24, [.s (parSV G (c80 D) (t80 D) q)])] = some (pairO zeroC 2, [flagP (decP b) (decOk b) = flagP Y false, ∀ i, 0 ≤ (t80 D).at i ∧ (t80 D).at i < 256, parSV (decP (g80 D)) (c80 D) (t80 D) (okV D) = parSV G (c80 D) (t80 D) q]) := by kernel_rfl
theorem exvb (I : B32 → List Int → SV) (hI : I = inR) (C : P5 → B32) (hC : C = chlV) (b : B32) (D : B80) (Y G : P20) (a : Option Addr) : runOutM (Γ I hI C hC) tys fn 100 [] [cB32.enc b, .o (.a (.v (.slice a 0 0))), cB80.enc D] [(19, [.s (flagP Y true)]), (24, [.s (parSV G (c80 D) (t80 D) false)])] = some (pairO zeroC 2, [flagP (decP b) (decOk b) = flagP Y true, ∀ i, 0 ≤ (t80 D).at i ∧ (t80 D).at i < 256, parSV (decP (g80 D)) (c80 D) (t80 D) (okV D) = parSV G (c80 D) (t80 D) false]) := by kernel_rfl
theorem exvc (I : B32 → List Int → SV) (hI : I = inR) (C : P5 → B32) (hC : C = chlV) (b : B32) (D : B80) (Y G O : P20) (a : Option Addr) : runOutM (Γ I hI C hC) tys fn 100 [] [cB32.enc b, .o (.a (.v (.slice a 0 0))), cB80.enc D] [(19, [.s (flagP Y true)]), (24, [.s (parSV G (c80 D) (t80 D) true)]), (37, [.s (cP.enc O)]), (38, [.s (cBool.enc true)])] = some (pairO zeroC 2, [flagP (decP b) (decOk b) = flagP Y true, ∀ i, 0 ≤ (t80 D).at i ∧ (t80 D).at i < 256, parSV (decP (g80 D)) (c80 D) (t80 D) (okV D) = parSV G (c80 D) (t80 D) true, cP.enc (clrP Y) = cP.enc O, cBool.enc (eqB (encP O) zeroPt) = cBool.enc true]) := by kernel_rfl
theorem exvd (I : B32 → List Int → SV) (hI : I = inR) (C : P5 → B32) (hC : C = chlV) (b : B32) (D : B80) (Y G O E : P20) (a : Option Addr) : runOutM (Γ I hI C hC) tys fn 100 [] [cB32.enc b, .o (.a (.v (.slice a 0 0))), cB80.enc D] [(19, [.s (flagP Y true)]), (24, [.s (parSV G (c80 D) (t80 D) true)]), (37, [.s (cP.enc O)]), (38, [.s (cBool.enc false)]), (44, [.s (flagP E false)])] = some (pairO zeroC 4, [flagP (decP b) (decOk b) = flagP Y true, ∀ i, 0 ≤ (t80 D).at i ∧ (t80 D).at i < 256, parSV (decP (g80 D)) (c80 D) (t80 D) (okV D) = parSV G (c80 D) (t80 D) true, cP.enc (clrP Y) = cP.enc O, cBool.enc (eqB (encP O) zeroPt) = cBool.enc false, I b [] = flagP E false]) := by kernel_rfl
theorem exve (I : B32 → List Int → SV) (hI : I = inR) (C : P5 → B32) (hC : C = chlV) (b : B32) (D : B80) (Y G O E T1 N1 M1 U T2 N2 M2 V : P20) (h g u w k : B32) (d : B64) (a : Option Addr) : runOutM (Γ I hI C hC) tys fn 100 [] [cB32.enc b, .o (.a (.v (.slice a 0 0))), cB80.enc D] [(19, [.s (flagP Y true)]), (24, [.s (parSV G (c80 D) (t80 D) true)]), (37, [.s (cP.enc O)]), (38, [.s (cBool.enc false)]), (44, [.s (flagP E true)]), (52, [.s (cP.enc T1)]), (54, [.s (cP.enc N1)]), (56, [.s (cP.enc M1)]), (57, [.s (cP.enc U)]), (60, [.s (cP.enc T2)]), (62, [.s (cP.enc N2)]), (64, [.s (cP.enc M2)]), (65, [.s (cP.enc V)]), (68, [.s (cB32.enc h)]), (70, [.s (cB32.enc g)]), (72, [.s (cB32.enc u)]), (74, [.s (cB32.enc w)]), (76, [.s (cB32.enc k)]), (78, [.b true])] = some (pairO zeroC 3, [flagP (decP b) (decOk b) = flagP Y true, ∀ i, 0 ≤ (t80 D).at i ∧ (t80 D).at i < 256, parSV (decP (g80 D)) (c80 D) (t80 D) (okV D) = parSV G (c80 D) (t80 D) true, cP.enc (clrP Y) = cP.enc O, cBool.enc (eqB (encP O) zeroPt) = cBool.enc false, I b [] = flagP E true, Nib (t80 D), cP.enc (oftenP baseP (t80 D)) = cP.enc T1, cP.enc (negP Y) = cP.enc N1, Nib (c80 D), cP.enc (oftenP N1 (c80 D)) = cP.enc M1, cP.enc (plusP T1 M1) = cP.enc U, Nib (t80 D), cP.enc (oftenP E (t80 D)) = cP.enc T2, cP.enc (negP G) = cP.enc N2, Nib (c80 D), cP.enc (oftenP N2 (c80 D)) = cP.enc M2, cP.enc (plusP T2 M2) = cP.enc V, cB32.enc (encP E) = cB32.enc h, cB32.enc (encP G) = cB32.enc g, cB32.enc (encP U) = cB32.enc u, cB32.enc (encP V) = cB32.enc w, cB32.enc (C ⟨b, h, g, u, w⟩) = cB32.enc k, (!eqB k (c80 D)) = true]) := by kernel_rfl
theorem exvf (I : B32 → List Int → SV) (hI : I = inR) (C : P5 → B32) (hC : C = chlV) (b : B32) (D : B80) (Y G O E T1 N1 M1 U T2 N2 M2 V : P20) (h g u w k : B32) (d : B64) (a : Option Addr) : runOutM (Γ I hI C hC) tys fn 100 [] [cB32.enc b, .o (.a (.v (.slice a 0 0))), cB80.enc D] [(19, [.s (flagP Y true)]), (24, [.s (parSV G (c80 D) (t80 D) true)]), (37, [.s (cP.enc O)]), (38, [.s (cBool.enc false)]), (44, [.s (flagP E true)]), (52, [.s (cP.enc T1)]), (54, [.s (cP.enc N1)]), (56, [.s (cP.enc M1)]), (57, [.s (cP.enc U)]), (60, [.s (cP.enc T2)]), (62, [.s (cP.enc N2)]), (64, [.s (cP.enc M2)]), (65, [.s (cP.enc V)]), (68, [.s (cB32.enc h)]), (70, [.s (cB32.enc g)]), (72, [.s (cB32.enc u)]), (74, [.s (cB32.enc w)]), (76, [.s (cB32.enc k)]), (78, [.b false]), (81, [.s (cB64.enc d)])] = some (pairO d 0, [flagP (decP b) (decOk b) = flagP Y true, ∀ i, 0 ≤ (t80 D).at i ∧ (t80 D).at i < 256, parSV (decP (g80 D)) (c80 D) (t80 D) (okV D) = parSV G (c80 D) (t80 D) true, cP.enc (clrP Y) = cP.enc O, cBool.enc (eqB (encP O) zeroPt) = cBool.enc false, I b [] = flagP E true, Nib (t80 D), cP.enc (oftenP baseP (t80 D)) = cP.enc T1, cP.enc (negP Y) = cP.enc N1, Nib (c80 D), cP.enc (oftenP N1 (c80 D)) = cP.enc M1, cP.enc (plusP T1 M1) = cP.enc U, Nib (t80 D), cP.enc (oftenP E (t80 D)) = cP.enc T2, cP.enc (negP G) = cP.enc N2, Nib (c80 D), cP.enc (oftenP N2 (c80 D)) = cP.enc M2, cP.enc (plusP T2 M2) = cP.enc V, cB32.enc (encP E) = cB32.enc h, cB32.enc (encP G) = cB32.enc g, cB32.enc (encP U) = cB32.enc u, cB32.enc (encP V) = cB32.enc w, cB32.enc (C ⟨b, h, g, u, w⟩) = cB32.enc k, (!eqB k (c80 D)) = false, cB64.enc (outV G) = cB64.enc d]) := by kernel_rfl
theorem runv (b : B32) (D : B80) (hD : D.Ok) (a : Option Addr) : RunsF Tryd.prog G2 0 body (startT fn [cB32.enc b, .o (.a (.v (.slice a 0 0))), cB80.enc D]) ([]) (EndsM tys fn (endsQ (vfyR b [] D) .none)) := by
  have hb : fn.body = some body := by kernel_rfl
  unfold vfyR
  cases h1 : decOk b with
  | false =>
    rw [Bool.not_false, cond_true]
    exact runs_of_out tys_ok mixed hb (exva inR rfl chlV rfl b D (decP b) (decP (g80 D)) (okV D) a) ⟨congrArg (flagP _) h1, hD.2.2, rfl, trivial⟩
  | true =>
    rw [Bool.not_true, cond_false]
    cases h2 : okV D with
    | false =>
      rw [Bool.not_false, cond_true]
      exact runs_of_out tys_ok mixed hb (exvb inR rfl chlV rfl b D (decP b) (decP (g80 D)) a) ⟨congrArg (flagP _) h1, hD.2.2, congrArg (parSV _ _ _) h2, trivial⟩
    | true =>
      rw [Bool.not_true, cond_false]
      cases h3 : orgV b with
      | true =>
        rw [cond_true]
        exact runs_of_out tys_ok mixed hb (exvc inR rfl chlV rfl b D (decP b) (decP (g80 D)) (clrP (decP b)) a) ⟨congrArg (flagP _) h1, hD.2.2, congrArg (parSV _ _ _) h2, rfl, congrArg cBool.enc h3, trivial⟩
      | false =>
        rw [cond_false]
        cases h4 : inOk b [] with
        | false =>
          rw [Bool.not_false, cond_true]
          exact runs_of_out tys_ok mixed hb (exvd inR rfl chlV rfl b D (decP b) (decP (g80 D)) (clrP (decP b)) nilP a) ⟨congrArg (flagP _) h1, hD.2.2, congrArg (parSV _ _ _) h2, rfl, congrArg cBool.enc h3, (show inR b [] = _ by unfold inR; rw [h4, cond_false]), trivial⟩
        | true =>
          rw [Bool.not_true, cond_false]
          cases h5 : eqB (vcV b [] D) (c80 D) with
          | true =>
            rw [cond_true]
            exact runs_of_out tys_ok mixed hb (exvf inR rfl chlV rfl b D (decP b) (decP (g80 D)) (clrP (decP b)) (inP b []) (oftenP baseP (t80 D)) (negP (decP b)) (oftenP (negP (decP b)) (c80 D)) (plusP (oftenP baseP (t80 D)) (oftenP (negP (decP b)) (c80 D))) (oftenP (inP b []) (t80 D)) (negP (decP (g80 D))) (oftenP (negP (decP (g80 D))) (c80 D)) (plusP (oftenP (inP b []) (t80 D)) (oftenP (negP (decP (g80 D))) (c80 D))) (encP (inP b [])) (encP (decP (g80 D))) (vuV b D) (vvV b [] D) (vcV b [] D) (outV (decP (g80 D))) a) ⟨congrArg (flagP _) h1, hD.2.2, congrArg (parSV _ _ _) h2, rfl, congrArg cBool.enc h3, (show inR b [] = _ by unfold inR; rw [h4, cond_true]), nib_of hD.2.2, rfl, rfl, nib_of hD.2.1, rfl, rfl, nib_of hD.2.2, rfl, rfl, nib_of hD.2.1, rfl, rfl, rfl, rfl, rfl, rfl, rfl, by rw [h5]; rfl, rfl, trivial⟩
          | false =>
            rw [cond_false]
            exact runs_of_out tys_ok mixed hb (exve inR rfl chlV rfl b D (decP b) (decP (g80 D)) (clrP (decP b)) (inP b []) (oftenP baseP (t80 D)) (negP (decP b)) (oftenP (negP (decP b)) (c80 D)) (plusP (oftenP baseP (t80 D)) (oftenP (negP (decP b)) (c80 D))) (oftenP (inP b []) (t80 D)) (negP (decP (g80 D))) (oftenP (negP (decP (g80 D))) (c80 D)) (plusP (oftenP (inP b []) (t80 D)) (oftenP (negP (decP (g80 D))) (c80 D))) (encP (inP b [])) (encP (decP (g80 D))) (vuV b D) (vvV b [] D) (vcV b [] D) (outV (decP (g80 D))) a) ⟨congrArg (flagP _) h1, hD.2.2, congrArg (parSV _ _ _) h2, rfl, congrArg cBool.enc h3, (show inR b [] = _ by unfold inR; rw [h4, cond_true]), nib_of hD.2.2, rfl, rfl, nib_of hD.2.1, rfl, rfl, nib_of hD.2.2, rfl, rfl, nib_of hD.2.1, rfl, rfl, rfl, rfl, rfl, rfl, rfl, by rw [h5]; rfl, trivial⟩
def spec (X : B32 → List Int → B80 → B64) (E : B32 → List Int → B80 → Int) : List PArg → Option (SV × LEff × Cst)
  | [.val v, .win .u8 ys n ty, .val w0] => match cB32.dec v with
    | some b => match cB80.dec w0 with
      | some D => some (pairO (X b ys D) (E b ys D), .none, [D.Ok, n ≤ 140737488353900])
      | none => none
    | none => none
  | [.val v, .val (.o (.a (.v (.slice _ 0 0)))), .val w0] => match cB32.dec v with
    | some b => match cB80.dec w0 with
      | some D => some (pairO (X b [] D) (E b [] D), .none, [D.Ok])
      | none => none
    | none => none
  | _ => none
noncomputable def con (X : B32 → List Int → B80 → B64) (hX : X = vfX) (E : B32 → List Int → B80 → Int) (hE : E = vfE) : Con Tryd.prog G2 := Con.parts tys_ok 24 fn Tryd.func24 (by kernel_rfl) (c := body) (by kernel_rfl) [.val, .win .u8, .val] (spec X E)
  (fun ps r e p h hp => by
    subst hX; subst hE
    unfold spec at h
    split at h
    · split at h
      · split at h <;> cases h
        exact ⟨rfl, fun b hb => by simp only [locBlks, PArg.blk, List.nil_append, List.append_nil, List.mem_singleton] at hb; rw [hb]⟩
      · cases h
    · split at h
      · split at h <;> cases h
        exact ⟨rfl, fun b hb => by cases hb⟩
      · cases h
    · cases h)
  (fun ps r e p cap h hp hi => by
    subst hX; subst hE
    unfold spec at h
    split at h
    · split at h
      rename_i b hb
      · split at h <;> cases h
        rename_i D hD
        have := cB32.ok _ _ hb
        subst this
        have := cB80.ok _ _ hD
        subst this
        rw [← vfyR_pair]; exact runw b D hp.1 _ _ _ _ hi.2.1.1 hi.2.1.2 hp.2.1
      · cases h
    · split at h
      rename_i b hb
      · split at h <;> cases h
        rename_i D hD
        have := cB32.ok _ _ hb
        subst this
        have := cB80.ok _ _ hD
        subst this
        rw [← vfyR_pair]; exact runv b D hp.1 _
      · cases h
    · cases h)
end vfy
end Go.Proofs.YtbfndladaldajaaDoor
/- What is proved is verified, with the proof's own output. Plain arithmetic, no program. -/
namespace Go.Proofs.YtbfndladaldajaaDoor
open Go Go.Eng
set_option linter.unusedVariables false
set_option maxRecDepth 100000
theorem hit_ok (b : B32) (m : List Int) (c : Nat) : BOk (hitV b m c) := by
  have h := s512V_byte (inB b m c)
  unfold hitV
  generalize s512V (inB b m c) = d at *
  have h2 : ∀ i, 0 ≤ (lo64 d).at i ∧ (lo64 d).at i < 256 := by
    intro i
    unfold lo64 B32.at
    split
    · exact h 0
    · exact h 1
    · exact h 2
    · exact h 3
    · exact h 4
    · exact h 5
    · exact h 6
    · exact h 7
    · exact h 8
    · exact h 9
    · exact h 10
    · exact h 11
    · exact h 12
    · exact h 13
    · exact h 14
    · exact h 15
    · exact h 16
    · exact h 17
    · exact h 18
    · exact h 19
    · exact h 20
    · exact h 21
    · exact h 22
    · exact h 23
    · exact h 24
    · exact h 25
    · exact h 26
    · exact h 27
    · exact h 28
    · exact h 29
    · exact h 30
    · exact h 31
  exact h2
theorem in_pt {b : B32} {m : List Int} (h : inOk b m = true) : ∃ q : Pt, OnC q ∧ Rep (inP b m) (nC q 8) := by
  have hl : fndV b m < 256 := Nat.le_of_ble_eq_true h
  have hg : goodV b m (fndV b m) = true := by
    have key : ∀ (f : Nat → Bool) (k c : Nat), fnd f k c < c + k → f (fnd f k c) = true := by
      intro f k
      induction k with
      | zero => intro c hc; unfold fnd at hc; omega
      | succ k ih =>
        intro c hc
        unfold fnd at hc ⊢
        cases hf : f c with
        | true => rw [cond_true]; exact hf
        | false =>
          rw [hf, cond_false] at hc
          rw [cond_false]
          exact ih (c + 1) (by omega)
    exact key _ 256 0 (by unfold fndV at hl; omega)
  unfold goodV at hg
  rw [Bool.and_eq_true] at hg
  obtain ⟨q, hq⟩ := pt_of (hit_ok _ _ _) hg.1
  exact ⟨q, hq.on, hq.dec.2.clr hq.on⟩
theorem prf_g {b : B32} {m : List Int} {e : Pt} (he : OnC e) (hr : Rep (eV b m) e) : PtB (pgV b m) (nC e (NV (numV b))) := PtB.enc (often_rep hr he (numV_ok b)) (nC_on he _)
theorem c_ch (a t : B32) (x : P5) : c80 (cat80 a (chlV x) t) = chlV x := by
  unfold chlV
  generalize s512V (chB x) = d
  rfl
theorem g_prf (b : B32) (m : List Int) : g80 (prfV b m) = pgV b m := by unfold prfV; exact g_cat _ _ _
theorem t_prf (b : B32) (m : List Int) : t80 (prfV b m) = ptV' b m := by unfold prfV; exact t_cat _ _ _
theorem c_prf (b : B32) (m : List Int) : c80 (prfV b m) = pcV b m := by unfold prfV pcV; exact c_ch _ _ _
theorem prf_ok {b : B32} {m : List Int} (h : inOk (pubV b) m = true) : (prfV b m).Ok := by
  obtain ⟨q, hq, hr⟩ := in_pt h
  unfold B80.Ok
  rw [g_prf, t_prf, c_prf]
  exact ⟨(prf_g (nC_on hq 8) hr).ok, ch_bytes _, (smulB_val (ch_bytes _) (numV_ok b) (hashV_ok _)).1⟩
theorem nil_ok : zeroB80.Ok := by
  have h : ∀ (z : B32), (∀ i, z.at i = 0) → BOk z := fun z hz i => by
    show 0 ≤ z.at i ∧ z.at i < 256
    rw [hz i]
    decide
  refine ⟨h _ fun i => ?_, h _ fun i => ?_, h _ fun i => ?_⟩ <;> (unfold B32.at; split <;> rfl)
theorem chk_sum {e : Pt} (he : OnC e) (h8 : nC e ordL = oC) (n k c : Nat) : addC (nC e ((c * n + k) % ordL)) (nC (negC (nC e n)) c) = nC e k := by
  rw [nC_mod he h8, neg_mul (nC_on he _), ← nC_mul he, nC_add he, Nat.mul_comm n c, addC_comm (nC e (c * n)) (nC e k), addC_assoc (nC_on he _) (nC_on he _) (negC_on (nC_on he _)), addC_neg (nC_on he _), addC_oC]
theorem vfy_acc {b : B32} {m : List Int} (h : inOk (pubV b) m = true) : vfyR (pubV b) m (prfV b m) = pairO (outV (decP (pgV b m))) 0 ∧ outSV (prfV b m) = pairO (outV (decP (pgV b m))) 0 := by
  obtain ⟨q, hq, hr⟩ := in_pt h
  have he := nC_on hq 8
  have hr : Rep (eV b m) (nC q 8) := hr
  have h8 : nC (nC q 8) ordL = oC := by rw [← nC_mul hq]; exact eight_ord hq
  have pg := prf_g he hr
  have pp := pub_pt b
  have hk : BOk (pkV b m) := hashV_ok _
  obtain ⟨t1, t2⟩ := smulB_val (ch_bytes _ : BOk (pcV b m)) (numV_ok b) hk
  have t1 : BOk (ptV' b m) := t1
  have t2 : NV (ptV' b m) = (NV (pcV b m) * NV (numV b) + NV (pkV b m)) % ordL := t2
  have hc : BOk (pcV b m) := ch_bytes _
  have hok : okV (prfV b m) = true := by
    unfold okV
    rw [g_prf, t_prf, pg.dec.1, (canV_iff t1).2 (by rw [t2]; exact Nat.mod_lt _ (by decide))]
    rfl
  have hu : vuV (pubV b) (prfV b m) = puV b m := by
    have h1 := ver_pt pp t1 hc
    rw [t2, chk_sum bC_on order_L] at h1
    unfold vuV puV
    rw [t_prf, c_prf]
    exact (eqB_iff _ _).1 (h1.eq (base_pt hk))
  have hv : vvV (pubV b) m (prfV b m) = pvV b m := by
    have h1 := PtB.enc ((often_rep hr he t1).plus (often_rep pg.dec.2.neg (negC_on pg.on) hc) (nC_on he _) (nC_on (negC_on pg.on) _)) (addC_on (nC_on he _) (nC_on (negC_on pg.on) _))
    rw [t2, chk_sum he h8] at h1
    have h2 := h1.eq (PtB.enc (often_rep hr he hk) (nC_on he _))
    unfold vvV pvV
    rw [t_prf, c_prf, g_prf]
    exact (eqB_iff _ _).1 h2
  have hg : encP (decP (g80 (prfV b m))) = pgV b m := by
    rw [g_prf]
    exact (eqB_iff _ _).1 ((PtB.enc pg.dec.2 pg.on).eq pg)
  have hcc : vcV (pubV b) m (prfV b m) = pcV b m := by
    unfold vcV
    rw [hu, hv, hg]
    unfold pcV phV eV
    rfl
  constructor
  · unfold vfyR
    rw [pp.dec.1, hok, show orgV (pubV b) = false by unfold orgV; exact pub_big b, h, hcc, c_prf, (eqB_iff (pcV b m) (pcV b m)).2 rfl, g_prf]
    rfl
  · unfold outSV
    rw [hok, cond_true, g_prf]
def sameL : List Int → Bool
  | [] => true
  | x :: l => (x == x) && sameL l
theorem sameL_true : ∀ l, sameL l = true
  | [] => rfl
  | x :: l => by simp [sameL, sameL_true l]
end Go.Proofs.YtbfndladaldajaaDoor

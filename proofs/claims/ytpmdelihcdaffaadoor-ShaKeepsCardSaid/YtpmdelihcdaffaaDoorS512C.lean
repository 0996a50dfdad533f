/- Package sha2: Sum512: its pieces. -/
import Derived.Test.YtpmdelihcdaffaaDoorS512B
import Derived.Test.YtpmdelihcdaffaaDoorShaH
namespace Go.Proofs.YtpmdelihcdaffaaDoor
open Go Go.Eng Go.RowKit
set_option linter.unusedVariables false
set_option maxRecDepth 100000

def cB64 : Cod B64 := cRow .u8 B64.to B64.of B64.of_to
def zeroC : B64 := ⟨0, 0, 0, 0, 0, 0, 0, 0, 0, 0, 0, 0, 0, 0, 0, 0, 0, 0, 0, 0, 0, 0, 0, 0, 0, 0, 0, 0, 0, 0, 0, 0, 0, 0, 0, 0, 0, 0, 0, 0, 0, 0, 0, 0, 0, 0, 0, 0, 0, 0, 0, 0, 0, 0, 0, 0, 0, 0, 0, 0, 0, 0, 0, 0⟩
def initD : E8 := ⟨7640891576956012808, 13503953896175478587, 4354685564936845355, 11912009170470909681, 5840696475078001361, 11170449401992604703, 2270897969802886507, 6620516959819538809⟩
def outD (h : E8) : B64 := ⟨byteAt h.b0 56, byteAt h.b0 48, byteAt h.b0 40, byteAt h.b0 32, byteAt h.b0 24, byteAt h.b0 16, byteAt h.b0 8, byteAt h.b0 0, byteAt h.b1 56, byteAt h.b1 48, byteAt h.b1 40, byteAt h.b1 32, byteAt h.b1 24, byteAt h.b1 16, byteAt h.b1 8, byteAt h.b1 0, byteAt h.b2 56, byteAt h.b2 48, byteAt h.b2 40, byteAt h.b2 32, byteAt h.b2 24, byteAt h.b2 16, byteAt h.b2 8, byteAt h.b2 0, byteAt h.b3 56, byteAt h.b3 48, byteAt h.b3 40, byteAt h.b3 32, byteAt h.b3 24, byteAt h.b3 16, byteAt h.b3 8, byteAt h.b3 0, byteAt h.b4 56, byteAt h.b4 48, byteAt h.b4 40, byteAt h.b4 32, byteAt h.b4 24, byteAt h.b4 16, byteAt h.b4 8, byteAt h.b4 0, byteAt h.b5 56, byteAt h.b5 48, byteAt h.b5 40, byteAt h.b5 32, byteAt h.b5 24, byteAt h.b5 16, byteAt h.b5 8, byteAt h.b5 0, byteAt h.b6 56, byteAt h.b6 48, byteAt h.b6 40, byteAt h.b6 32, byteAt h.b6 24, byteAt h.b6 16, byteAt h.b6 8, byteAt h.b6 0, byteAt h.b7 56, byteAt h.b7 48, byteAt h.b7 40, byteAt h.b7 32, byteAt h.b7 24, byteAt h.b7 16, byteAt h.b7 8, byteAt h.b7 0⟩
/-- The last bytes: the rest, 128, zeros, the number of bits. -/
def tailD (rest : List Int) (m : Nat) : List Int := putI (0 + (0 + m)) [128] 0 (putI (0 + 0) rest 0 (List.replicate 256 0))
def tailE (zs : List Int) (at_ : Nat) (bt : Int) : List Int := putI (0 + at_) (app.sh8.map (byteAt bt)) 0 zs
namespace d512
noncomputable abbrev fn := Tryd.f21
noncomputable def body : Code := bodyOf fn
noncomputable def L : Code := cL (cB (cs1 (csuf 3 body)))
noncomputable def R6 : Code := cs1 (csuf 4 body)
noncomputable def T7 : Code := csuf 5 body
noncomputable def T15 : Code := csuf 5 T7
theorem T3_eq : csuf 3 body = .seq (.block 0 (.loop L)) (.seq R6 T7) := by kernel_rfl
noncomputable def Γ : Cons Tryd.prog G2 := [dblk_con, app_con.lift gs_g2]

namespace w
def M1 (o m c N : Nat) : List (Option SV) := maskL 58 0 [(0, .o (.a (.sld 0 0 o m c))), (2, .o (.a (.ptr 1 0))), (3, .o (.a (.ptr 2 0))), (4, (cInt .i64).enc ((N : Nat) : Int))]
def M6 (l : Nat) (N : Nat) : List (Option SV) := maskL 58 0 [(2, .o (.a (.ptr 1 0))), (3, .o (.a (.ptr 2 0))), (4, (cInt .i64).enc ((N : Nat) : Int)), (5, .o (.a (.sld 3 0 0 l 256)))]
def mem (ys : List Int) (ty : TypeId) (H : E8) : List Blk := [⟨false, ty, .pre .u8 ys⟩, ⟨true, 38, .lit (zeroC.to.map (int1 .u8))⟩, ⟨true, 61, .lit (rowE H)⟩]
def memT (ys : List Int) (ty : TypeId) (H : E8) (zs : List Int) : List Blk := mem ys ty H ++ [⟨true, 5, .run .u8 zs⟩]
theorem ids1 (ys : List Int) (ty : TypeId) (H : E8) (o m c N : Nat) : idsIn (mem ys ty H).length (M1 o m c N ) (mem ys ty H) = true := by kernel_rfl
theorem ids6 (ys : List Int) (ty : TypeId) (H : E8) (zs : List Int) (l : Nat) (N : Nat) : idsIn (memT ys ty H zs).length (M6 l N ) (memT ys ty H zs) = true := by kernel_rfl
noncomputable def t0 (n c : Nat) : List SV := startT fn [.o (.a (.sld 0 0 0 n c))]
theorem s1 (ys : List Int) (ty : TypeId) (n c : Nat) : outX (mem ys ty initD).length (M1 0 n c n) (exec Γ tys 100 (cpre 3 body) ⟨t0 n c , [⟨false, ty, .pre .u8 ys⟩], []⟩) = some (.normal, live (M1 0 n c n), (M1 0 n c n).length, mem ys ty initD, []) := by kernel_rfl
theorem go (ys : List Int) (ty : TypeId) (H : E8) (o m c N : Nat) (g : Nat → SV) : outX (mem ys ty (blkD H ((ys.drop o).take m))).length (M1 (advO c 128 o) (m - 128) (c - 128) N) (exec Γ tys 100 L ⟨fill g 0 (M1 o m c N ), mem ys ty H, [(15, [.b true])]⟩) = some (.normal, live (M1 (advO c 128 o) (m - 128) (c - 128) N), (M1 (advO c 128 o) (m - 128) (c - 128) N).length, mem ys ty (blkD H ((ys.drop o).take m)), [decide ((m : Int) ≥ 128) = true, o + m ≤ ys.length, m ≤ c, 128 ≤ m, (0 : Int) ≤ 128, (128 : Int) ≤ (m : Int), (m : Int) ≤ (c : Int)]) := by kernel_rfl
theorem stop (ys : List Int) (ty : TypeId) (H : E8) (o m c N : Nat) (g : Nat → SV) : outX (mem ys ty H).length (M1 o m c N ) (exec Γ tys 100 L ⟨fill g 0 (M1 o m c N ), mem ys ty H, [(15, [.b false])]⟩) = some (.exit 0, live (M1 o m c N ), (M1 o m c N ).length, mem ys ty H, [decide ((m : Int) ≥ 128) = false]) := by kernel_rfl
theorem s6 (ys : List Int) (ty : TypeId) (H : E8) (o m c N : Nat) (g : Nat → SV) : outX (memT ys ty H (tailD ((ys.drop o).take m) m)).length (M6 (0 + m + 1) N ) (exec Γ tys 100 R6 ⟨fill g 0 (M1 o m c N ), mem ys ty H, []⟩) = some (.normal, live (M6 (0 + m + 1) N ), (M6 (0 + m + 1) N ).length, memT ys ty H (tailD ((ys.drop o).take m) m), [(0 : Int) ≤ 0, (0 : Int) ≤ 256, Room Tryd.prog 5 256, o + m ≤ ys.length, 0 + m ≤ 256, 0 + 0 + m ≤ (List.replicate 256 (0 : Int)).length, 0 + 1 ≤ 1, 0 + m + 1 ≤ 256, 0 + (0 + m) + 1 ≤ (putI (0 + 0) ((ys.drop o).take m) 0 (List.replicate 256 0)).length]) := by kernel_rfl
def M15 : List (Option SV) := maskL 58 0 [(2, .o (.a (.ptr 1 0))), (3, .o (.a (.ptr 2 0)))]
theorem ids15 (ys : List Int) (ty : TypeId) (H : E8) : idsIn (mem ys ty H).length M15 (mem ys ty H) = true := by kernel_rfl
theorem s7a (ys : List Int) (ty : TypeId) (H : E8) (zs : List Int) (l N : Nat) (bt : Int) (g : Nat → SV) : outX (mem ys ty (blkD H (((tailE zs 120 bt).drop 0).take 128))).length (M15) (exec Γ tys 100 (cpre 5 T7) ⟨fill g 0 (M6 l N ), memT ys ty H zs, [(27, [.b false]), (37, [.n bt])]⟩) = some (.normal, live (M15), (M15).length, mem ys ty (blkD H (((tailE zs 120 bt).drop 0).take 128)), [decide ((l : Int) > 112) = false, (0 : Int) ≤ 0, (0 : Int) ≤ 128, (128 : Int) ≤ 256, (0 : Int) ≤ 0, (0 : Int) ≤ 120, (120 : Int) ≤ 256, IntKind.u64.wrap (IntKind.u64.wrap ((N : Nat) : Int) * 8) = bt, 120 ≤ 256, 128 ≤ 256, 128 ≤ zs.length, 128 ≤ (tailE zs 120 bt).length, 128 ≤ 256, 128 ≤ 128, (0 : Int) ≤ 128, (128 : Int) ≤ 128, (128 : Int) ≤ 256]) := by kernel_rfl
theorem s7b (ys : List Int) (ty : TypeId) (H : E8) (zs : List Int) (l N : Nat) (bt : Int) (g : Nat → SV) : outX (mem ys ty (blkD (blkD H (((tailE zs 248 bt).drop 0).take 256)) (((tailE zs 248 bt).drop 128).take 128))).length (M15) (exec Γ tys 100 (cpre 5 T7) ⟨fill g 0 (M6 l N ), memT ys ty H zs, [(27, [.b true]), (37, [.n bt])]⟩) = some (.normal, live (M15), (M15).length, mem ys ty (blkD (blkD H (((tailE zs 248 bt).drop 0).take 256)) (((tailE zs 248 bt).drop 128).take 128)), [decide ((l : Int) > 112) = true, (0 : Int) ≤ 0, (0 : Int) ≤ 256, (256 : Int) ≤ 256, (0 : Int) ≤ 0, (0 : Int) ≤ 248, (248 : Int) ≤ 256, IntKind.u64.wrap (IntKind.u64.wrap ((N : Nat) : Int) * 8) = bt, 248 ≤ 256, 256 ≤ 256, 256 ≤ zs.length, 256 ≤ (tailE zs 248 bt).length, 256 ≤ 256, 128 ≤ 256, (0 : Int) ≤ 128, (128 : Int) ≤ 256, (256 : Int) ≤ 256, 256 ≤ (tailE zs 248 bt).length, 128 ≤ 128, 128 ≤ 128, (0 : Int) ≤ 128, (128 : Int) ≤ 128, (128 : Int) ≤ 128]) := by kernel_rfl
noncomputable def fin (ys : List Int) (ty : TypeId) (H : E8) (g : Nat → SV) : St := outS Γ tys 100 T15 ⟨fill g 0 (M15), mem ys ty H, []⟩
theorem d (ys : List Int) (ty : TypeId) (H : E8) (g : Nat → SV) : exec Γ tys 100 T15 ⟨fill g 0 (M15), mem ys ty H, []⟩ = some (.ret, ⟨(fin ys ty H g).tm, (fin ys ty H g).mem, []⟩, [0 ≤ 64, 8 ≤ 64, 8 ≤ 64, 8 ≤ 64, 16 ≤ 64, 16 ≤ 64, 16 ≤ 64, 24 ≤ 64, 24 ≤ 64, 24 ≤ 64, 32 ≤ 64, 32 ≤ 64, 32 ≤ 64, 40 ≤ 64, 40 ≤ 64, 40 ≤ 64, 48 ≤ 64, 48 ≤ 64, 48 ≤ 64, 56 ≤ 64, 56 ≤ 64, 56 ≤ 64, 64 ≤ 64, 64 ≤ 64]) := by kernel_rfl
theorem res (ys : List Int) (ty : TypeId) (H : E8) (g : Nat → SV) : eRes tys (fin ys ty H g).tm (fun k => (fin ys ty H g).mem[k]?) fn.results.toList = some [.g ((outD H).to.map (int1 .u8))] := by kernel_rfl
end w
namespace n
def M1 (a : Option Addr) : List (Option SV) := maskL 58 0 [(0, .o (.a (.v (.slice a 0 0)))), (2, .o (.a (.ptr 0 0))), (3, .o (.a (.ptr 1 0))), (4, (cInt .i64).enc ((0 : Nat) : Int))]
def M6 (l : Nat) : List (Option SV) := maskL 58 0 [(2, .o (.a (.ptr 0 0))), (3, .o (.a (.ptr 1 0))), (4, (cInt .i64).enc ((0 : Nat) : Int)), (5, .o (.a (.sld 2 0 0 l 256)))]
def mem (H : E8) : List Blk := [⟨true, 38, .lit (zeroC.to.map (int1 .u8))⟩, ⟨true, 61, .lit (rowE H)⟩]
def memT (H : E8) (zs : List Int) : List Blk := mem H ++ [⟨true, 5, .run .u8 zs⟩]
theorem ids1 (a : Option Addr) (H : E8) : idsIn (mem H).length (M1 a ) (mem H) = true := by kernel_rfl
theorem ids6 (a : Option Addr) (H : E8) (zs : List Int) (l : Nat) : idsIn (memT H zs).length (M6 l ) (memT H zs) = true := by kernel_rfl
noncomputable def t0 (a : Option Addr) : List SV := startT fn [.o (.a (.v (.slice a 0 0)))]
theorem s1 (a : Option Addr) : outX (mem initD).length (M1 a) (exec Γ tys 100 (cpre 3 body) ⟨t0 a , [], []⟩) = some (.normal, live (M1 a), (M1 a).length, mem initD, []) := by kernel_rfl
theorem stop (a : Option Addr) (H : E8) (g : Nat → SV) : outX (mem H).length (M1 a ) (exec Γ tys 100 L ⟨fill g 0 (M1 a ), mem H, []⟩) = some (.exit 0, live (M1 a ), (M1 a ).length, mem H, []) := by kernel_rfl
theorem s6 (a : Option Addr) (H : E8) (g : Nat → SV) : outX (memT H (tailD [] 0)).length (M6 (0 + 0 + 1) ) (exec Γ tys 100 R6 ⟨fill g 0 (M1 a ), mem H, []⟩) = some (.normal, live (M6 (0 + 0 + 1) ), (M6 (0 + 0 + 1) ).length, memT H (tailD [] 0), [(0 : Int) ≤ 0, (0 : Int) ≤ 256, Room Tryd.prog 5 256, 0 + 0 ≤ 256, 0 + 0 + 0 ≤ (List.replicate 256 (0 : Int)).length, 0 + 1 ≤ 1, 0 + 0 + 1 ≤ 256, 0 + (0 + 0) + 1 ≤ (putI (0 + 0) [] 0 (List.replicate 256 0)).length]) := by kernel_rfl
def M15 : List (Option SV) := maskL 58 0 [(2, .o (.a (.ptr 0 0))), (3, .o (.a (.ptr 1 0)))]
theorem ids15 (H : E8) : idsIn (mem H).length M15 (mem H) = true := by kernel_rfl
theorem s7a (a : Option Addr) (H : E8) (zs : List Int) (l : Nat) (bt : Int) (g : Nat → SV) : outX (mem (blkD H (((tailE zs 120 bt).drop 0).take 128))).length (M15) (exec Γ tys 100 (cpre 5 T7) ⟨fill g 0 (M6 l ), memT H zs, [(27, [.b false]), (37, [.n bt])]⟩) = some (.normal, live (M15), (M15).length, mem (blkD H (((tailE zs 120 bt).drop 0).take 128)), [decide ((l : Int) > 112) = false, (0 : Int) ≤ 0, (0 : Int) ≤ 128, (128 : Int) ≤ 256, (0 : Int) ≤ 0, (0 : Int) ≤ 120, (120 : Int) ≤ 256, IntKind.u64.wrap (IntKind.u64.wrap ((0 : Nat) : Int) * 8) = bt, 120 ≤ 256, 128 ≤ 256, 128 ≤ zs.length, 128 ≤ (tailE zs 120 bt).length, 128 ≤ 256, 128 ≤ 128, (0 : Int) ≤ 128, (128 : Int) ≤ 128, (128 : Int) ≤ 256]) := by kernel_rfl
theorem s7b (a : Option Addr) (H : E8) (zs : List Int) (l : Nat) (bt : Int) (g : Nat → SV) : outX (mem (blkD (blkD H (((tailE zs 248 bt).drop 0).take 256)) (((tailE zs 248 bt).drop 128).take 128))).length (M15) (exec Γ tys 100 (cpre 5 T7) ⟨fill g 0 (M6 l ), memT H zs, [(27, [.b true]), (37, [.n bt])]⟩) = some (.normal, live (M15), (M15).length, mem (blkD (blkD H (((tailE zs 248 bt).drop 0).take 256)) (((tailE zs 248 bt).drop 128).take 128)), [decide ((l : Int) > 112) = true, (0 : Int) ≤ 0, (0 : Int) ≤ 256, (256 : Int) ≤ 256, (0 : Int) ≤ 0, (0 : Int) ≤ 248, (248 : Int) ≤ 256, IntKind.u64.wrap (IntKind.u64.wrap ((0 : Nat) : Int) * 8) = bt, 248 ≤ 256, 256 ≤ 256, 256 ≤ zs.length, 256 ≤ (tailE zs 248 bt).length, 256 ≤ 256, 128 ≤ 256, (0 : Int) ≤ 128, (128 : Int) ≤ 256, (256 : Int) ≤ 256, 256 ≤ (tailE zs 248 bt).length, 128 ≤ 128, 128 ≤ 128, (0 : Int) ≤ 128, (128 : Int) ≤ 128, (128 : Int) ≤ 128]) := by kernel_rfl
noncomputable def fin (H : E8) (g : Nat → SV) : St := outS Γ tys 100 T15 ⟨fill g 0 (M15), mem H, []⟩
theorem d (H : E8) (g : Nat → SV) : exec Γ tys 100 T15 ⟨fill g 0 (M15), mem H, []⟩ = some (.ret, ⟨(fin H g).tm, (fin H g).mem, []⟩, [0 ≤ 64, 8 ≤ 64, 8 ≤ 64, 8 ≤ 64, 16 ≤ 64, 16 ≤ 64, 16 ≤ 64, 24 ≤ 64, 24 ≤ 64, 24 ≤ 64, 32 ≤ 64, 32 ≤ 64, 32 ≤ 64, 40 ≤ 64, 40 ≤ 64, 40 ≤ 64, 48 ≤ 64, 48 ≤ 64, 48 ≤ 64, 56 ≤ 64, 56 ≤ 64, 56 ≤ 64, 64 ≤ 64, 64 ≤ 64]) := by kernel_rfl
theorem res (H : E8) (g : Nat → SV) : eRes tys (fin H g).tm (fun k => (fin H g).mem[k]?) fn.results.toList = some [.g ((outD H).to.map (int1 .u8))] := by kernel_rfl
end n
end d512
end Go.Proofs.YtpmdelihcdaffaaDoor

/- The law of accepted labels: walked; its content. -/
import Derived.Test.YtbfndladaldajaaDoorQLab
import Derived.Test.YtbfndladaldajaaDoorQEDoor
import Derived.Test.YtbfndladaldajaaDoorQArr80
namespace Go.Proofs.YtbfndladaldajaaDoor
open Go Go.Eng Go.RowKit
set_option linter.unusedVariables false
set_option linter.unusedSimpArgs false
set_option maxRecDepth 100000
namespace llac
noncomputable abbrev fn := Tryd.f4
noncomputable def body : Code := bodyOf fn
noncomputable def Γ (X : B32 → ByteArray → Int → Bool → B32) (hX : X = mkX) (Y : B32 → ByteArray → Int → Bool → B80) (hY : Y = mkY) (E : B32 → ByteArray → Int → Bool → Int) (hE : E = mkE) (C : B32 → ByteArray → Int → Bool → B80 → B32) (hC : C = ckX) (F : B32 → ByteArray → Int → Bool → B80 → Int) (hF : F = ckE) : Cons Tryd.prog G2 := [awk.con, mk.con X hX Y hY E hE, ck.con C hC F hF, rpublic_con]
theorem exa (X : B32 → ByteArray → Int → Bool → B32) (hX : X = mkX) (Y : B32 → ByteArray → Int → Bool → B80) (hY : Y = mkY) (E : B32 → ByteArray → Int → Bool → Int) (hE : E = mkE) (C : B32 → ByteArray → Int → Bool → B80 → B32) (hC : C = ckX) (F : B32 → ByteArray → Int → Bool → B80 → Int) (hF : F = ckE) (q : B32) (f : Int) (b : B32) (s : ByteArray) (v : Int) (st : Bool) : runOutM (Γ X hX Y hY E hE C hC F hF) tys fn 200 [] [cB32.enc b, .o (.a (.v (.string s))), .o (.a (.v (.int .u64 v))), .o (.a (.v (.bool st)))] [(21, [.s (trip zeroB zeroB80 1)]), (27, [.s (cB32.enc q)]), (32, [.s (pair32 zeroB f)]), (45, [.b true])] = some (cBool.enc true, [s.size ≤ 9223372036854775807, U64 v, trip (X b s v st) (Y b s v st) (E b s v st) = trip zeroB zeroB80 1, cB32.enc (pubV b) = cB32.enc q, s.size ≤ 9223372036854775807, U64 v, zeroB80.Ok, pair32 (C q s v st zeroB80) (F q s v st zeroB80) = pair32 zeroB f, (!(f == 0)) = true]) := by kernel_rfl
theorem exb (X : B32 → ByteArray → Int → Bool → B32) (hX : X = mkX) (Y : B32 → ByteArray → Int → Bool → B80) (hY : Y = mkY) (E : B32 → ByteArray → Int → Bool → Int) (hE : E = mkE) (C : B32 → ByteArray → Int → Bool → B80 → B32) (hC : C = ckX) (F : B32 → ByteArray → Int → Bool → B80 → Int) (hF : F = ckE) (q : B32) (f : Int) (b : B32) (s : ByteArray) (v : Int) (st : Bool) : runOutM (Γ X hX Y hY E hE C hC F hF) tys fn 200 [] [cB32.enc b, .o (.a (.v (.string s))), .o (.a (.v (.int .u64 v))), .o (.a (.v (.bool st)))] [(21, [.s (trip zeroB zeroB80 4)]), (27, [.s (cB32.enc q)]), (32, [.s (pair32 zeroB f)]), (45, [.b true])] = some (cBool.enc true, [s.size ≤ 9223372036854775807, U64 v, trip (X b s v st) (Y b s v st) (E b s v st) = trip zeroB zeroB80 4, cB32.enc (pubV b) = cB32.enc q, s.size ≤ 9223372036854775807, U64 v, zeroB80.Ok, pair32 (C q s v st zeroB80) (F q s v st zeroB80) = pair32 zeroB f, (!(f == 0)) = true]) := by kernel_rfl
theorem exc (X : B32 → ByteArray → Int → Bool → B32) (hX : X = mkX) (Y : B32 → ByteArray → Int → Bool → B80) (hY : Y = mkY) (E : B32 → ByteArray → Int → Bool → Int) (hE : E = mkE) (C : B32 → ByteArray → Int → Bool → B80 → B32) (hC : C = ckX) (F : B32 → ByteArray → Int → Bool → B80 → Int) (hF : F = ckE) (q : B32) (x : B32) (D : B80) (b : B32) (s : ByteArray) (v : Int) (st : Bool) : runOutM (Γ X hX Y hY E hE C hC F hF) tys fn 200 [] [cB32.enc b, .o (.a (.v (.string s))), .o (.a (.v (.int .u64 v))), .o (.a (.v (.bool st)))] [(21, [.s (trip x D 0)]), (27, [.s (cB32.enc q)]), (32, [.s (pair32 x 0)]), (57, [.b true])] = some (cBool.enc true, [s.size ≤ 9223372036854775807, U64 v, trip (X b s v st) (Y b s v st) (E b s v st) = trip x D 0, cB32.enc (pubV b) = cB32.enc q, s.size ≤ 9223372036854775807, U64 v, D.Ok, pair32 (C q s v st D) (F q s v st D) = pair32 x 0, sameL x.to = true]) := by kernel_rfl
def fstB : SV → Option B64
  | .t [.g cs, _] => cB64.dec (.o (.g cs))
  | _ => none
def sndI : SV → Option Int
  | .t [_, .a (.v (.int _ n))] => some n
  | _ => none
theorem fst_pair (x : B64) (e : Int) : fstB (pairO x e) = some x := by kernel_rfl
theorem snd_pair (x : B64) (e : Int) : sndI (pairO x e) = some e := by kernel_rfl
theorem pair_inj {x y : B64} {e f : Int} (h : pairO x e = pairO y f) : x = y ∧ e = f := by
  have h1 := congrArg fstB h
  have h2 := congrArg sndI h
  rw [fst_pair, fst_pair] at h1
  rw [snd_pair, snd_pair] at h2
  exact ⟨Option.some.inj h1, Option.some.inj h2⟩
theorem vf_bad {q : B32} {m : List Int} {D : B80} (h : inOk q m = false) : vfE q m D ≠ 0 := by
  unfold vfE
  cases decOk q
  · exact fun h => by cases h
  cases okV D
  · exact fun h => by cases h
  cases orgV q
  · rw [h]
    exact fun h => by cases h
  · exact fun h => by cases h
theorem vf_good {b : B32} {m : List Int} (h : inOk (pubV b) m = true) : vfX (pubV b) m (prfV b m) = outV (decP (pgV b m)) ∧ vfE (pubV b) m (prfV b m) = 0 := by
  have h1 := (vfy_acc h).1
  rw [vfyR_pair] at h1
  exact pair_inj h1
theorem run (b : B32) (s : ByteArray) (v : Int) (st : Bool) (hs : s.size ≤ 9223372036854775807) (hv : U64 v) : RunsF Tryd.prog G2 0 body (startT fn [cB32.enc b, .o (.a (.v (.string s))), .o (.a (.v (.int .u64 v))), .o (.a (.v (.bool st)))]) [] (EndsM tys fn (endsQ (cBool.enc true) .none)) := by
  have hb : fn.body = some body := by kernel_rfl
  cases h : inOkS s v with
  | false =>
    have e1 : trip (mkX b s v st) (mkY b s v st) (mkE b s v st) = trip zeroB zeroB80 1 := by unfold mkX mkY mkE; rw [h, Bool.false_and, cond_false, cond_false, cond_false]
    have e2 : pair32 (ckX (pubV b) s v st zeroB80) (ckE (pubV b) s v st zeroB80) = pair32 zeroB 1 := by unfold ckX ckE; rw [h, cond_false, cond_false]
    exact runs_of_out tys_ok mixed hb (exa mkX rfl mkY rfl mkE rfl ckX rfl ckE rfl (pubV b) 1 b s v st) ⟨hs, hv, e1, rfl, hs, hv, nil_ok, e2, by decide, trivial⟩
  | true =>
    cases h2 : inOk (pubV b) (inM s v st) with
    | false =>
      have e1 : trip (mkX b s v st) (mkY b s v st) (mkE b s v st) = trip zeroB zeroB80 4 := by unfold mkX mkY mkE; rw [h, h2, Bool.true_and, cond_false, cond_false, cond_true, cond_false]
      have e3 := vf_bad (D := zeroB80) h2
      have e2 : pair32 (ckX (pubV b) s v st zeroB80) (ckE (pubV b) s v st zeroB80) = pair32 zeroB (vfE (pubV b) (inM s v st) zeroB80) := by unfold ckX ckE; rw [h, cond_true, cond_true, vfX_bad e3]; rfl
      exact runs_of_out tys_ok mixed hb (exb mkX rfl mkY rfl mkE rfl ckX rfl ckE rfl (pubV b) (vfE (pubV b) (inM s v st) zeroB80) b s v st) ⟨hs, hv, e1, rfl, hs, hv, nil_ok, e2, by simpa using e3, trivial⟩
    | true =>
      obtain ⟨g1, g2⟩ := vf_good h2
      have e1 : trip (mkX b s v st) (mkY b s v st) (mkE b s v st) = trip (lo64 (outV (decP (pgV b (inM s v st))))) (prfV b (inM s v st)) 0 := by unfold mkX mkY mkE; rw [h, h2, Bool.true_and, cond_true, cond_true, cond_true, cond_true]
      have e2 : pair32 (ckX (pubV b) s v st (prfV b (inM s v st))) (ckE (pubV b) s v st (prfV b (inM s v st))) = pair32 (lo64 (outV (decP (pgV b (inM s v st))))) 0 := by unfold ckX ckE; rw [h, cond_true, cond_true, g1, g2]
      exact runs_of_out tys_ok mixed hb (exc mkX rfl mkY rfl mkE rfl ckX rfl ckE rfl (pubV b) (lo64 (outV (decP (pgV b (inM s v st))))) (prfV b (inM s v st)) b s v st) ⟨hs, hv, e1, rfl, hs, hv, prf_ok h2, e2, sameL_true _, trivial⟩
end llac
theorem llac_ok (b : B32) (s : ByteArray) (v : Int) (st : Bool) (W : World) (hb : BOk b) (hs : s.size ≤ maxLen) (hv : (Lit.int .u64 v).wf = true) (hg : GlobOk G2 W) :
    Calls Tryd.prog 4 #[(cB32.enc b).den lam0, .string s, .int .u64 v, .bool st] W fun e W' => e = .returned (.bool true) ∧ Below W.heap.size W W' := by
  have h8 : ∀ n : Int, (Lit.int .u64 n).wf = true → U64 n := fun n h => by
    simp [Lit.wf, IntKind.min, IntKind.max, IntKind.signed, IntKind.bits] at h
    exact ⟨h.1, by omega⟩
  have hm : maxLen = 9223372036854775807 := by decide
  rw [hm] at hs
  exact law_calls tys_ok Tryd.func4 (c := llac.body) (by kernel_rfl) (l := []) (args := [cB32.enc b, .o (.a (.v (.string s))), .o (.a (.v (.int .u64 v))), .o (.a (.v (.bool st)))]) (r := cBool.enc true) hg (fun _ => ⟨0, 0, 0⟩) (fun i b h => by cases h) (fun x hx k hk => by
    simp only [List.mem_cons, List.not_mem_nil, or_false] at hx
    rcases hx with rfl | rfl | rfl | rfl
    · rw [cB32.ids] at hk; cases hk
    all_goals cases hk) rfl (llac.run b s v st hs (h8 v hv))
end Go.Proofs.YtbfndladaldajaaDoor

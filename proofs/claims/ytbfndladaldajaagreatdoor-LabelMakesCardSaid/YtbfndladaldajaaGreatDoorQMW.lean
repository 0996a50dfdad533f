/- Packages beaconref03, beaconref05: Canonical, Verify: walks, contracts. -/
import Derived.Test.YtbfndladaldajaaGreatDoorQMJ
import Derived.Test.YtbfndladaldajaaGreatDoorQMV
import Derived.Test.YtbfndladaldajaaGreatDoorQMA
import Derived.Test.YtbfndladaldajaaGreatDoorQMF
import Derived.Test.YtbfndladaldajaaGreatDoorQMD
namespace Go.Proofs.YtbfndladaldajaaGreatDoor
open Go Go.Eng Go.RowKit
set_option linter.unusedVariables false
set_option linter.unusedSimpArgs false
set_option maxRecDepth 100000
namespace sfr
noncomputable abbrev fn:=Tryz.f146
noncomputable def body:Code:=bS fn
theorem ex (b:B32) (ty:TypeId):aZ ([]:Cons Tryz.prog GX) tys fn 100 [⟨false,ty,.lit (cB32.row b)⟩] [.o (.a (.slc 0 0 32 32))] []=some (cN4.enc (fromN b),[]):=by kernel_rfl
theorem run (b:B32) (ty:TypeId):aG Tryz.prog GX 1 body (aA fn [.o (.a (.slc 0 0 32 32))]) [⟨false,ty,.lit (cB32.row b)⟩] (aD tys fn (aX (cN4.enc (fromN b)) .none)):=by
 have hb:fn.body=some body:=by kernel_rfl
 exact aM ah mixed hb (ex b ty) trivial
end sfr
noncomputable def sfrom_con:Con Tryz.prog GX:=Con.hand ah 146 sfr.fn Tryz.func146 (by kernel_rfl) (c:=sfr.body) (by kernel_rfl) (Dec.slc Tryz.prog 32 cB32 (fun b=>cN4.enc (fromN b)) (fun _=>[]) (fun _=>rfl)) (fun x hc _=>sfr.run x.1 x.2)
theorem rcan_ex (b:B32) (v:N4) (t:Bool):runOut [sfrom_con,sorder_con,sbelow_con] tys Tryz.f88 100 [cB32.enc b] [(4,[.s (cN4.enc v)]),(6,[.s (aN.enc t)])]=some (aN.enc t,[cN4.enc (fromN b)=cN4.enc v,aN.enc (bK v o4)=aN.enc t]):=by kernel_rfl
theorem canR {b:B32} (hb:BOk b):bK (fromN b) o4=canV b:=by
 obtain⟨h1,h2⟩:=fromN_val hb
 have ho:N4Ok o4:=o4_ok
 have hv:N4V o4=ordI:=by decide
 have hc:=NV_cast hb
 have hl:=ordI_cast
 cases h:canV b with
 | true=>
  have:=(canV_iff hb).1 h
  exact(belowW_iff h1 ho).2 (by rw[h2,hv];omega)
 | false=>
  cases h3:bK (fromN b) o4 with
  | false=>rfl
  | true=>
   have h4:=(belowW_iff h1 ho).1 h3
   rw[h2,hv] at h4
   have:=(canV_iff hb).2 (by omega)
   rw[h] at this
   cases this
theorem rcan_fn (b:B32) (hb:BOk b):FnOk Tryz.prog GX 88 [cB32.enc b] (aN.enc (canV b)):=by
 rw[←canR hb]
 exact FnOk.aB ah mixed Tryz.func88 (rcan_ex b (fromN b) (bK (fromN b) o4)) ⟨rfl,rfl,trivial⟩ rfl rfl
noncomputable def rcan_con:Con Tryz.prog GX:=con1 88 Tryz.f88 Tryz.func88 (by kernel_rfl) (by kernel_rfl) cB32 (fun b=>aN.enc (canV b)) (fun b=>[BOk b]) (fun _=>rfl) (fun b h=>rcan_fn b h.1)
theorem small_key {b:B32} (hb:BOk b):errOf (qOk b)=(bif bN b then 0 else 2)∧(bN b=true→qsmallF b=eqB (encP (clrP (decP b))) bT):=by
 rw[qOk_eq hb]
 refine⟨by cases bN b<;>rfl,fun h=> ?_⟩
 obtain⟨q,hq⟩:=pt_of hb h
 rw[←all_small hb,small_val hq]
 unfold pclearB
 rw[h]
end Go.Proofs.YtbfndladaldajaaGreatDoor

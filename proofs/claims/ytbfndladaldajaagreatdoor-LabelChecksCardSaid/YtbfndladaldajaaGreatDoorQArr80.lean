/- Rows of 80 bytes among a law's arguments. -/
import Derived.Test.YtbfndladaldajaaGreatDoorQMA
import Derived.Test.YtbfndladaldajaaGreatDoorQMF
import Derived.Test.YtbfndladaldajaaGreatDoorQMU
namespace Go.Proofs.YtbfndladaldajaaGreatDoor
open Go Go.Eng Go.RowKit Go.ChangeAt Go.ChangeShapes
set_option linter.unusedVariables false
theorem b80_of_list:∀(zs:List Int),zs.length=80→(∀z∈zs,(Lit.int .u8 z).wf=true)→∃b:B80,zs=b.to∧b.Ok
 | a0::a1::a2::a3::a4::a5::a6::a7::a8::a9::a10::a11::a12::a13::a14::a15::a16::a17::a18::a19::a20::a21::a22::a23::a24::a25::a26::a27::a28::a29::a30::a31::a32::a33::a34::a35::a36::a37::a38::a39::a40::a41::a42::a43::a44::a45::a46::a47::a48::a49::a50::a51::a52::a53::a54::a55::a56::a57::a58::a59::a60::a61::a62::a63::a64::a65::a66::a67::a68::a69::a70::a71::a72::a73::a74::a75::a76::a77::a78::a79::[],_,h=>by
  have h':∀z∈(a0::a1::a2::a3::a4::a5::a6::a7::a8::a9::a10::a11::a12::a13::a14::a15::a16::a17::a18::a19::a20::a21::a22::a23::a24::a25::a26::a27::a28::a29::a30::a31::a32::a33::a34::a35::a36::a37::a38::a39::a40::a41::a42::a43::a44::a45::a46::a47::a48::a49::a50::a51::a52::a53::a54::a55::a56::a57::a58::a59::a60::a61::a62::a63::a64::a65::a66::a67::a68::a69::a70::a71::a72::a73::a74::a75::a76::a77::a78::a79::[]:List Int),0≤z∧z<256:=fun z hz=>by
   have:=h z hz
   simp[Lit.wf,IntKind.min,IntKind.max,IntKind.signed,IntKind.bits] at this
   exact⟨this.1,by omega⟩
  have k:∀(n:Nat) (z:Int),(a0::a1::a2::a3::a4::a5::a6::a7::a8::a9::a10::a11::a12::a13::a14::a15::a16::a17::a18::a19::a20::a21::a22::a23::a24::a25::a26::a27::a28::a29::a30::a31::a32::a33::a34::a35::a36::a37::a38::a39::a40::a41::a42::a43::a44::a45::a46::a47::a48::a49::a50::a51::a52::a53::a54::a55::a56::a57::a58::a59::a60::a61::a62::a63::a64::a65::a66::a67::a68::a69::a70::a71::a72::a73::a74::a75::a76::a77::a78::a79::[]:List Int)[n]? =some z→0≤z∧z<256:=fun n z hz=>h' z (List.mem_of_getElem? hz)
  exact⟨⟨a0,a1,a2,a3,a4,a5,a6,a7,a8,a9,a10,a11,a12,a13,a14,a15,a16,a17,a18,a19,a20,a21,a22,a23,a24,a25,a26,a27,a28,a29,a30,a31,a32,a33,a34,a35,a36,a37,a38,a39,a40,a41,a42,a43,a44,a45,a46,a47,a48,a49,a50,a51,a52,a53,a54,a55,a56,a57,a58,a59,a60,a61,a62,a63,a64,a65,a66,a67,a68,a69,a70,a71,a72,a73,a74,a75,a76,a77,a78,a79⟩,rfl,⟨fun i=>by
   unfold g80 B32.at
   split
   ·exact k 0 a0 rfl
   ·exact k 1 a1 rfl
   ·exact k 2 a2 rfl
   ·exact k 3 a3 rfl
   ·exact k 4 a4 rfl
   ·exact k 5 a5 rfl
   ·exact k 6 a6 rfl
   ·exact k 7 a7 rfl
   ·exact k 8 a8 rfl
   ·exact k 9 a9 rfl
   ·exact k 10 a10 rfl
   ·exact k 11 a11 rfl
   ·exact k 12 a12 rfl
   ·exact k 13 a13 rfl
   ·exact k 14 a14 rfl
   ·exact k 15 a15 rfl
   ·exact k 16 a16 rfl
   ·exact k 17 a17 rfl
   ·exact k 18 a18 rfl
   ·exact k 19 a19 rfl
   ·exact k 20 a20 rfl
   ·exact k 21 a21 rfl
   ·exact k 22 a22 rfl
   ·exact k 23 a23 rfl
   ·exact k 24 a24 rfl
   ·exact k 25 a25 rfl
   ·exact k 26 a26 rfl
   ·exact k 27 a27 rfl
   ·exact k 28 a28 rfl
   ·exact k 29 a29 rfl
   ·exact k 30 a30 rfl
   ·exact k 31 a31 rfl,
  fun i=>by
   unfold c80 B32.at
   split
   ·exact k 32 a32 rfl
   ·exact k 33 a33 rfl
   ·exact k 34 a34 rfl
   ·exact k 35 a35 rfl
   ·exact k 36 a36 rfl
   ·exact k 37 a37 rfl
   ·exact k 38 a38 rfl
   ·exact k 39 a39 rfl
   ·exact k 40 a40 rfl
   ·exact k 41 a41 rfl
   ·exact k 42 a42 rfl
   ·exact k 43 a43 rfl
   ·exact k 44 a44 rfl
   ·exact k 45 a45 rfl
   ·exact k 46 a46 rfl
   ·exact k 47 a47 rfl
   ·exact⟨Int.le_refl 0,show(0:Int)<256 by decide⟩
   ·exact⟨Int.le_refl 0,show(0:Int)<256 by decide⟩
   ·exact⟨Int.le_refl 0,show(0:Int)<256 by decide⟩
   ·exact⟨Int.le_refl 0,show(0:Int)<256 by decide⟩
   ·exact⟨Int.le_refl 0,show(0:Int)<256 by decide⟩
   ·exact⟨Int.le_refl 0,show(0:Int)<256 by decide⟩
   ·exact⟨Int.le_refl 0,show(0:Int)<256 by decide⟩
   ·exact⟨Int.le_refl 0,show(0:Int)<256 by decide⟩
   ·exact⟨Int.le_refl 0,show(0:Int)<256 by decide⟩
   ·exact⟨Int.le_refl 0,show(0:Int)<256 by decide⟩
   ·exact⟨Int.le_refl 0,show(0:Int)<256 by decide⟩
   ·exact⟨Int.le_refl 0,show(0:Int)<256 by decide⟩
   ·exact⟨Int.le_refl 0,show(0:Int)<256 by decide⟩
   ·exact⟨Int.le_refl 0,show(0:Int)<256 by decide⟩
   ·exact⟨Int.le_refl 0,show(0:Int)<256 by decide⟩
   ·exact⟨Int.le_refl 0,show(0:Int)<256 by decide⟩,
  fun i=>by
   unfold t80 B32.at
   split
   ·exact k 48 a48 rfl
   ·exact k 49 a49 rfl
   ·exact k 50 a50 rfl
   ·exact k 51 a51 rfl
   ·exact k 52 a52 rfl
   ·exact k 53 a53 rfl
   ·exact k 54 a54 rfl
   ·exact k 55 a55 rfl
   ·exact k 56 a56 rfl
   ·exact k 57 a57 rfl
   ·exact k 58 a58 rfl
   ·exact k 59 a59 rfl
   ·exact k 60 a60 rfl
   ·exact k 61 a61 rfl
   ·exact k 62 a62 rfl
   ·exact k 63 a63 rfl
   ·exact k 64 a64 rfl
   ·exact k 65 a65 rfl
   ·exact k 66 a66 rfl
   ·exact k 67 a67 rfl
   ·exact k 68 a68 rfl
   ·exact k 69 a69 rfl
   ·exact k 70 a70 rfl
   ·exact k 71 a71 rfl
   ·exact k 72 a72 rfl
   ·exact k 73 a73 rfl
   ·exact k 74 a74 rfl
   ·exact k 75 a75 rfl
   ·exact k 76 a76 rfl
   ·exact k 77 a77 rfl
   ·exact k 78 a78 rfl
   ·exact k 79 a79 rfl⟩⟩
theorem open_b80 {H:Type} {enc:TypeId × Value→H} {P:Program} {w:World} {base:Nat} {spare:Nat→Bool} {held:Bool} {r:Reach} {b0:Nat} {t e:TypeId} {v:Value} {d:DataW H} {ps:List MemPlace}
  (ht:P.underlying t=some (.array 80 e)) (he:P.underlying e=some (.int .u8)) (hc:P.cellsOf e=1) (hn:P.cellsOf t=80)
  (hval:Value.okWide P w r b0 t v) (hd:DataW.Trod enc P w base spare held t v d ps):
  ∃b:B80,v=(cB80.enc b).den (fun _=>(⟨0,0,0⟩:Eng.Loc))∧ps=[]∧b.Ok:=by
 obtain⟨zs,hl,hv,hp,hw⟩:=open_arr ht he hc hn hval hd
 obtain⟨b,rfl,hb⟩:=b80_of_list zs hl hw
 refine⟨b,?_,hp,hb⟩
 rw[hv]
 show _=Value.agg _
 congr 2
end Go.Proofs.YtbfndladaldajaaGreatDoor

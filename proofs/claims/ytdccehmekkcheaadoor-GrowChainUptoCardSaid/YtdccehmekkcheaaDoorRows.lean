/-
  NARROWER THAN 'FOR EVERY INPUT', by the rows' own cells (each row's printed sentence says how): TreeRoots: laid · TreeParts: laid · TreeNodes: laid · TreeFinds: laid · TreeOpens: laid · GrowStays: laid · GrowChecks: laid · GrowAccepts: laid · GrowLeast: laid · GrowChain: laid · GrowKeeps: laid · TreeBack: laid · TreeKeeps: laid · GrowRelinks: laid.
  DERIVED. THE GIVEN ROWS OF THIS SEAT. 14 by the template 'for every input the law returns true; each argument reads behind the call as it read before'; 0 by the template 'total and deterministic' (their statements: YtdccehmekkcheaaDoorTotals.lean).
  GIVEN WITH THE SEED: the statements are not yours to turn. If you find one false, say at which input.
  Laid BY PROGRAM, IN A SANDBOX (cutbox-rows.mjs): the forced cells as the released guide's own fill.sh prints them over the translation dbc38f252747c5c6… (all of the seat's roots in one cut). By AI agents, Wed Nov 11 2026. No macro, syntax, notation, axiom, sorry.
-/
import Derived.Test.YtdccehmekkcheaaDoorChecked
import GoSem.Claim
import GoSem.ClaimJoined
import GoSem.ClaimMapViews
import Derived.JoinedTies
import Derived.KernelRfl
namespace Go.Proofs.YtdccehmekkcheaaDoor
/- THE CELL 'sum', in the pinned program and in every row, IS THE sha256 OF THE DUMP (.gsa) THAT YtdccehmekkcheaaDoorProg.lean LOADS. Nothing in Lean hashes anything: it is a label: what it is worth is what the hold of that sum in a sandbox is worth. -/
noncomputable def Tryd.pinned : Pinned := { name := "ytdccehmekkcheaadoor", sum := "dbc38f252747c5c6a406f24a4345bfb8c426bd441e10b6713f69bc2329d35e8f", checked := Tryd.checked }
namespace Rows
def none {H : Type} : Left H := { results := [], args := [] }

/- WHAT THE LISTED PACKAGE-LEVEL VARIABLES READ AS WHEN THE CALL BEGINS. Each datum BY PROGRAM (the guide's laid-datum.mjs) off the statement by which the dump's own 'gosem.cut.vars' lays the variable. In a bare row this is a premise. The card (YtdccehmekkcheaaDoorCards.lean) ties it to the program's text. -/
def laid_beacon_sha2_k256 {H : Type} : DataW H := .agg [.lit (.int .u32 1116352408), .lit (.int .u32 1899447441), .lit (.int .u32 3049323471), .lit (.int .u32 3921009573), .lit (.int .u32 961987163), .lit (.int .u32 1508970993), .lit (.int .u32 2453635748), .lit (.int .u32 2870763221), .lit (.int .u32 3624381080), .lit (.int .u32 310598401), .lit (.int .u32 607225278), .lit (.int .u32 1426881987), .lit (.int .u32 1925078388), .lit (.int .u32 2162078206), .lit (.int .u32 2614888103), .lit (.int .u32 3248222580), .lit (.int .u32 3835390401), .lit (.int .u32 4022224774), .lit (.int .u32 264347078), .lit (.int .u32 604807628), .lit (.int .u32 770255983), .lit (.int .u32 1249150122), .lit (.int .u32 1555081692), .lit (.int .u32 1996064986), .lit (.int .u32 2554220882), .lit (.int .u32 2821834349), .lit (.int .u32 2952996808), .lit (.int .u32 3210313671), .lit (.int .u32 3336571891), .lit (.int .u32 3584528711), .lit (.int .u32 113926993), .lit (.int .u32 338241895), .lit (.int .u32 666307205), .lit (.int .u32 773529912), .lit (.int .u32 1294757372), .lit (.int .u32 1396182291), .lit (.int .u32 1695183700), .lit (.int .u32 1986661051), .lit (.int .u32 2177026350), .lit (.int .u32 2456956037), .lit (.int .u32 2730485921), .lit (.int .u32 2820302411), .lit (.int .u32 3259730800), .lit (.int .u32 3345764771), .lit (.int .u32 3516065817), .lit (.int .u32 3600352804), .lit (.int .u32 4094571909), .lit (.int .u32 275423344), .lit (.int .u32 430227734), .lit (.int .u32 506948616), .lit (.int .u32 659060556), .lit (.int .u32 883997877), .lit (.int .u32 958139571), .lit (.int .u32 1322822218), .lit (.int .u32 1537002063), .lit (.int .u32 1747873779), .lit (.int .u32 1955562222), .lit (.int .u32 2024104815), .lit (.int .u32 2227730452), .lit (.int .u32 2361852424), .lit (.int .u32 2428436474), .lit (.int .u32 2756734187), .lit (.int .u32 3204031479), .lit (.int .u32 3329325298)]

/-- 'beaconlaw11.TreeRoots': WHATEVER THE INPUT: true; the input reads as it did. -/
def treeRootsSpec : ChangeSpec := { name := "treeRoots", fn := fun _ => fun
  | [d1, d2] => { results := [.lit (.bool true)], args := [d1, d2] }
  | _ => none }
def treeRootsRow : OpenClaim := { program := "ytdccehmekkcheaadoor", sum := "dbc38f252747c5c6a406f24a4345bfb8c426bd441e10b6713f69bc2329d35e8f", func := "beacon/beaconlaw11.TreeRoots", spec := "treeRoots", inPlace := ["internal/bytealg.Compare", "internal/reflectlite.ValueOf", "internal/reflectlite.Swapper", "(internal/reflectlite.Value).Len"], unfollowed := true, recurses := true, named := ["beacon/sha2.k256"], apart := false, laid := [("beacon/sha2.k256", laid_beacon_sha2_k256)] }
def TreeRootsSaid : Prop := treeRootsRow.holds Tryd.pinned (OpenSpec.ofChange treeRootsSpec)

/-- ITS FALSE NEIGHBOUR: 'it returns false'. Refute it at one input. -/
def treeRootsWrong : ChangeSpec := { name := "treeRoots", fn := fun _ => fun
  | [d1, d2] => { results := [.lit (.bool false)], args := [d1, d2] }
  | _ => none }
def TreeRootsWrongFalsely : Prop := treeRootsRow.holds Tryd.pinned (OpenSpec.ofChange treeRootsWrong)

/-- 'beaconlaw11.TreeParts': WHATEVER THE INPUT: true; the input reads as it did. -/
def treePartsSpec : ChangeSpec := { name := "treeParts", fn := fun _ => fun
  | [d1, d2] => { results := [.lit (.bool true)], args := [d1, d2] }
  | _ => none }
def treePartsRow : OpenClaim := { program := "ytdccehmekkcheaadoor", sum := "dbc38f252747c5c6a406f24a4345bfb8c426bd441e10b6713f69bc2329d35e8f", func := "beacon/beaconlaw11.TreeParts", spec := "treeParts", inPlace := ["internal/bytealg.Compare", "internal/reflectlite.ValueOf", "internal/reflectlite.Swapper", "(internal/reflectlite.Value).Len"], unfollowed := true, recurses := true, named := ["beacon/sha2.k256"], apart := false, laid := [("beacon/sha2.k256", laid_beacon_sha2_k256)] }
def TreePartsSaid : Prop := treePartsRow.holds Tryd.pinned (OpenSpec.ofChange treePartsSpec)

/-- ITS FALSE NEIGHBOUR: 'it returns false'. Refute it at one input. -/
def treePartsWrong : ChangeSpec := { name := "treeParts", fn := fun _ => fun
  | [d1, d2] => { results := [.lit (.bool false)], args := [d1, d2] }
  | _ => none }
def TreePartsWrongFalsely : Prop := treePartsRow.holds Tryd.pinned (OpenSpec.ofChange treePartsWrong)

/-- 'beaconlaw11.TreeNodes': WHATEVER THE INPUT: true; the input reads as it did. -/
def treeNodesSpec : ChangeSpec := { name := "treeNodes", fn := fun _ => fun
  | [d1, d2] => { results := [.lit (.bool true)], args := [d1, d2] }
  | _ => none }
def treeNodesRow : OpenClaim := { program := "ytdccehmekkcheaadoor", sum := "dbc38f252747c5c6a406f24a4345bfb8c426bd441e10b6713f69bc2329d35e8f", func := "beacon/beaconlaw11.TreeNodes", spec := "treeNodes", inPlace := ["internal/bytealg.Compare", "internal/reflectlite.ValueOf", "internal/reflectlite.Swapper", "(internal/reflectlite.Value).Len"], unfollowed := true, recurses := true, named := ["beacon/sha2.k256"], apart := false, laid := [("beacon/sha2.k256", laid_beacon_sha2_k256)] }
def TreeNodesSaid : Prop := treeNodesRow.holds Tryd.pinned (OpenSpec.ofChange treeNodesSpec)

/-- ITS FALSE NEIGHBOUR: 'it returns false'. Refute it at one input. -/
def treeNodesWrong : ChangeSpec := { name := "treeNodes", fn := fun _ => fun
  | [d1, d2] => { results := [.lit (.bool false)], args := [d1, d2] }
  | _ => none }
def TreeNodesWrongFalsely : Prop := treeNodesRow.holds Tryd.pinned (OpenSpec.ofChange treeNodesWrong)

/-- 'beaconlaw11.TreeFinds': WHATEVER THE INPUT: true; the input reads as it did. -/
def treeFindsSpec : ChangeSpec := { name := "treeFinds", fn := fun _ => fun
  | [d1, d2, d3] => { results := [.lit (.bool true)], args := [d1, d2, d3] }
  | _ => none }
def treeFindsRow : OpenClaim := { program := "ytdccehmekkcheaadoor", sum := "dbc38f252747c5c6a406f24a4345bfb8c426bd441e10b6713f69bc2329d35e8f", func := "beacon/beaconlaw11.TreeFinds", spec := "treeFinds", inPlace := ["internal/bytealg.Compare", "internal/reflectlite.ValueOf", "internal/reflectlite.Swapper", "(internal/reflectlite.Value).Len"], unfollowed := true, recurses := true, named := ["beacon/sha2.k256"], apart := false, laid := [("beacon/sha2.k256", laid_beacon_sha2_k256)] }
def TreeFindsSaid : Prop := treeFindsRow.holds Tryd.pinned (OpenSpec.ofChange treeFindsSpec)

/-- ITS FALSE NEIGHBOUR: 'it returns false'. Refute it at one input. -/
def treeFindsWrong : ChangeSpec := { name := "treeFinds", fn := fun _ => fun
  | [d1, d2, d3] => { results := [.lit (.bool false)], args := [d1, d2, d3] }
  | _ => none }
def TreeFindsWrongFalsely : Prop := treeFindsRow.holds Tryd.pinned (OpenSpec.ofChange treeFindsWrong)

/-- 'beaconlaw11.TreeOpens': WHATEVER THE INPUT: true; the input reads as it did. -/
def treeOpensSpec : ChangeSpec := { name := "treeOpens", fn := fun _ => fun
  | [d1, d2] => { results := [.lit (.bool true)], args := [d1, d2] }
  | _ => none }
def treeOpensRow : OpenClaim := { program := "ytdccehmekkcheaadoor", sum := "dbc38f252747c5c6a406f24a4345bfb8c426bd441e10b6713f69bc2329d35e8f", func := "beacon/beaconlaw11.TreeOpens", spec := "treeOpens", inPlace := ["internal/bytealg.Compare", "internal/reflectlite.ValueOf", "internal/reflectlite.Swapper", "(internal/reflectlite.Value).Len"], unfollowed := true, recurses := true, named := ["beacon/sha2.k256"], apart := false, laid := [("beacon/sha2.k256", laid_beacon_sha2_k256)] }
def TreeOpensSaid : Prop := treeOpensRow.holds Tryd.pinned (OpenSpec.ofChange treeOpensSpec)

/-- ITS FALSE NEIGHBOUR: 'it returns false'. Refute it at one input. -/
def treeOpensWrong : ChangeSpec := { name := "treeOpens", fn := fun _ => fun
  | [d1, d2] => { results := [.lit (.bool false)], args := [d1, d2] }
  | _ => none }
def TreeOpensWrongFalsely : Prop := treeOpensRow.holds Tryd.pinned (OpenSpec.ofChange treeOpensWrong)

/-- 'beaconlaw12.GrowStays': WHATEVER THE INPUT: true; the input reads as it did. -/
def growStaysSpec : ChangeSpec := { name := "growStays", fn := fun _ => fun
  | [d1, d2] => { results := [.lit (.bool true)], args := [d1, d2] }
  | _ => none }
def growStaysRow : OpenClaim := { program := "ytdccehmekkcheaadoor", sum := "dbc38f252747c5c6a406f24a4345bfb8c426bd441e10b6713f69bc2329d35e8f", func := "beacon/beaconlaw12.GrowStays", spec := "growStays", inPlace := ["internal/bytealg.Compare", "internal/reflectlite.ValueOf", "internal/reflectlite.Swapper", "(internal/reflectlite.Value).Len"], unfollowed := true, recurses := true, named := ["beacon/sha2.k256"], apart := false, laid := [("beacon/sha2.k256", laid_beacon_sha2_k256)] }
def GrowStaysSaid : Prop := growStaysRow.holds Tryd.pinned (OpenSpec.ofChange growStaysSpec)

/-- ITS FALSE NEIGHBOUR: 'it returns false'. Refute it at one input. -/
def growStaysWrong : ChangeSpec := { name := "growStays", fn := fun _ => fun
  | [d1, d2] => { results := [.lit (.bool false)], args := [d1, d2] }
  | _ => none }
def GrowStaysWrongFalsely : Prop := growStaysRow.holds Tryd.pinned (OpenSpec.ofChange growStaysWrong)

/-- 'beaconlaw12.GrowChecks': WHATEVER THE INPUT: true; the input reads as it did. -/
def growChecksSpec : ChangeSpec := { name := "growChecks", fn := fun _ => fun
  | [d1, d2, d3, d4] => { results := [.lit (.bool true)], args := [d1, d2, d3, d4] }
  | _ => none }
def growChecksRow : OpenClaim := { program := "ytdccehmekkcheaadoor", sum := "dbc38f252747c5c6a406f24a4345bfb8c426bd441e10b6713f69bc2329d35e8f", func := "beacon/beaconlaw12.GrowChecks", spec := "growChecks", inPlace := ["internal/bytealg.Compare", "internal/reflectlite.ValueOf", "internal/reflectlite.Swapper", "(internal/reflectlite.Value).Len"], unfollowed := true, recurses := true, named := ["beacon/sha2.k256"], apart := false, laid := [("beacon/sha2.k256", laid_beacon_sha2_k256)] }
def GrowChecksSaid : Prop := growChecksRow.holds Tryd.pinned (OpenSpec.ofChange growChecksSpec)

/-- ITS FALSE NEIGHBOUR: 'it returns false'. Refute it at one input. -/
def growChecksWrong : ChangeSpec := { name := "growChecks", fn := fun _ => fun
  | [d1, d2, d3, d4] => { results := [.lit (.bool false)], args := [d1, d2, d3, d4] }
  | _ => none }
def GrowChecksWrongFalsely : Prop := growChecksRow.holds Tryd.pinned (OpenSpec.ofChange growChecksWrong)

/-- 'beaconlaw12.GrowAccepts': WHATEVER THE INPUT: true; the input reads as it did. -/
def growAcceptsSpec : ChangeSpec := { name := "growAccepts", fn := fun _ => fun
  | [d1, d2] => { results := [.lit (.bool true)], args := [d1, d2] }
  | _ => none }
def growAcceptsRow : OpenClaim := { program := "ytdccehmekkcheaadoor", sum := "dbc38f252747c5c6a406f24a4345bfb8c426bd441e10b6713f69bc2329d35e8f", func := "beacon/beaconlaw12.GrowAccepts", spec := "growAccepts", inPlace := ["internal/bytealg.Compare", "internal/reflectlite.ValueOf", "internal/reflectlite.Swapper", "(internal/reflectlite.Value).Len"], unfollowed := true, recurses := true, named := ["beacon/sha2.k256"], apart := false, laid := [("beacon/sha2.k256", laid_beacon_sha2_k256)] }
def GrowAcceptsSaid : Prop := growAcceptsRow.holds Tryd.pinned (OpenSpec.ofChange growAcceptsSpec)

/-- ITS FALSE NEIGHBOUR: 'it returns false'. Refute it at one input. -/
def growAcceptsWrong : ChangeSpec := { name := "growAccepts", fn := fun _ => fun
  | [d1, d2] => { results := [.lit (.bool false)], args := [d1, d2] }
  | _ => none }
def GrowAcceptsWrongFalsely : Prop := growAcceptsRow.holds Tryd.pinned (OpenSpec.ofChange growAcceptsWrong)

/-- 'beaconlaw12.GrowLeast': WHATEVER THE INPUT: true; the input reads as it did. -/
def growLeastSpec : ChangeSpec := { name := "growLeast", fn := fun _ => fun
  | [d1, d2] => { results := [.lit (.bool true)], args := [d1, d2] }
  | _ => none }
def growLeastRow : OpenClaim := { program := "ytdccehmekkcheaadoor", sum := "dbc38f252747c5c6a406f24a4345bfb8c426bd441e10b6713f69bc2329d35e8f", func := "beacon/beaconlaw12.GrowLeast", spec := "growLeast", inPlace := ["internal/bytealg.Compare", "internal/reflectlite.ValueOf", "internal/reflectlite.Swapper", "(internal/reflectlite.Value).Len"], unfollowed := true, recurses := true, named := ["beacon/sha2.k256"], apart := false, laid := [("beacon/sha2.k256", laid_beacon_sha2_k256)] }
def GrowLeastSaid : Prop := growLeastRow.holds Tryd.pinned (OpenSpec.ofChange growLeastSpec)

/-- ITS FALSE NEIGHBOUR: 'it returns false'. Refute it at one input. -/
def growLeastWrong : ChangeSpec := { name := "growLeast", fn := fun _ => fun
  | [d1, d2] => { results := [.lit (.bool false)], args := [d1, d2] }
  | _ => none }
def GrowLeastWrongFalsely : Prop := growLeastRow.holds Tryd.pinned (OpenSpec.ofChange growLeastWrong)

/-- 'beaconlaw12.GrowChain': WHATEVER THE INPUT: true; the input reads as it did. -/
def growChainSpec : ChangeSpec := { name := "growChain", fn := fun _ => fun
  | [d1, d2, d3, d4] => { results := [.lit (.bool true)], args := [d1, d2, d3, d4] }
  | _ => none }
def growChainRow : OpenClaim := { program := "ytdccehmekkcheaadoor", sum := "dbc38f252747c5c6a406f24a4345bfb8c426bd441e10b6713f69bc2329d35e8f", func := "beacon/beaconlaw12.GrowChain", spec := "growChain", inPlace := ["internal/bytealg.Compare", "internal/reflectlite.ValueOf", "internal/reflectlite.Swapper", "(internal/reflectlite.Value).Len"], unfollowed := true, recurses := true, named := ["beacon/sha2.k256"], apart := false, laid := [("beacon/sha2.k256", laid_beacon_sha2_k256)] }
def GrowChainSaid : Prop := growChainRow.holds Tryd.pinned (OpenSpec.ofChange growChainSpec)

/-- ITS FALSE NEIGHBOUR: 'it returns false'. Refute it at one input. -/
def growChainWrong : ChangeSpec := { name := "growChain", fn := fun _ => fun
  | [d1, d2, d3, d4] => { results := [.lit (.bool false)], args := [d1, d2, d3, d4] }
  | _ => none }
def GrowChainWrongFalsely : Prop := growChainRow.holds Tryd.pinned (OpenSpec.ofChange growChainWrong)

/-- 'beaconlaw12.GrowKeeps': WHATEVER THE INPUT: true; the input reads as it did. -/
def growKeepsSpec : ChangeSpec := { name := "growKeeps", fn := fun _ => fun
  | [d1, d2] => { results := [.lit (.bool true)], args := [d1, d2] }
  | _ => none }
def growKeepsRow : OpenClaim := { program := "ytdccehmekkcheaadoor", sum := "dbc38f252747c5c6a406f24a4345bfb8c426bd441e10b6713f69bc2329d35e8f", func := "beacon/beaconlaw12.GrowKeeps", spec := "growKeeps", inPlace := ["internal/bytealg.Compare", "internal/reflectlite.ValueOf", "internal/reflectlite.Swapper", "(internal/reflectlite.Value).Len"], unfollowed := true, recurses := true, named := ["beacon/sha2.k256"], apart := false, laid := [("beacon/sha2.k256", laid_beacon_sha2_k256)] }
def GrowKeepsSaid : Prop := growKeepsRow.holds Tryd.pinned (OpenSpec.ofChange growKeepsSpec)

/-- ITS FALSE NEIGHBOUR: 'it returns false'. Refute it at one input. -/
def growKeepsWrong : ChangeSpec := { name := "growKeeps", fn := fun _ => fun
  | [d1, d2] => { results := [.lit (.bool false)], args := [d1, d2] }
  | _ => none }
def GrowKeepsWrongFalsely : Prop := growKeepsRow.holds Tryd.pinned (OpenSpec.ofChange growKeepsWrong)

/-- 'beaconlaw11.TreeBack': WHATEVER THE INPUT: true; the input reads as it did. -/
def treeBackSpec : ChangeSpec := { name := "treeBack", fn := fun _ => fun
  | [d1, d2, d3] => { results := [.lit (.bool true)], args := [d1, d2, d3] }
  | _ => none }
def treeBackRow : OpenClaim := { program := "ytdccehmekkcheaadoor", sum := "dbc38f252747c5c6a406f24a4345bfb8c426bd441e10b6713f69bc2329d35e8f", func := "beacon/beaconlaw11.TreeBack", spec := "treeBack", inPlace := ["internal/bytealg.Compare", "internal/reflectlite.ValueOf", "internal/reflectlite.Swapper", "(internal/reflectlite.Value).Len"], unfollowed := true, recurses := true, named := ["beacon/sha2.k256"], apart := false, laid := [("beacon/sha2.k256", laid_beacon_sha2_k256)] }
def TreeBackSaid : Prop := treeBackRow.holds Tryd.pinned (OpenSpec.ofChange treeBackSpec)

/-- ITS FALSE NEIGHBOUR: 'it returns false'. Refute it at one input. -/
def treeBackWrong : ChangeSpec := { name := "treeBack", fn := fun _ => fun
  | [d1, d2, d3] => { results := [.lit (.bool false)], args := [d1, d2, d3] }
  | _ => none }
def TreeBackWrongFalsely : Prop := treeBackRow.holds Tryd.pinned (OpenSpec.ofChange treeBackWrong)

/-- 'beaconlaw11.TreeKeeps': WHATEVER THE INPUT: true; the input reads as it did. -/
def treeKeepsSpec : ChangeSpec := { name := "treeKeeps", fn := fun _ => fun
  | [d1, d2] => { results := [.lit (.bool true)], args := [d1, d2] }
  | _ => none }
def treeKeepsRow : OpenClaim := { program := "ytdccehmekkcheaadoor", sum := "dbc38f252747c5c6a406f24a4345bfb8c426bd441e10b6713f69bc2329d35e8f", func := "beacon/beaconlaw11.TreeKeeps", spec := "treeKeeps", inPlace := ["internal/bytealg.Compare", "internal/reflectlite.ValueOf", "internal/reflectlite.Swapper", "(internal/reflectlite.Value).Len"], unfollowed := true, recurses := true, named := ["beacon/sha2.k256"], apart := false, laid := [("beacon/sha2.k256", laid_beacon_sha2_k256)] }
def TreeKeepsSaid : Prop := treeKeepsRow.holds Tryd.pinned (OpenSpec.ofChange treeKeepsSpec)

/-- ITS FALSE NEIGHBOUR: 'it returns false'. Refute it at one input. -/
def treeKeepsWrong : ChangeSpec := { name := "treeKeeps", fn := fun _ => fun
  | [d1, d2] => { results := [.lit (.bool false)], args := [d1, d2] }
  | _ => none }
def TreeKeepsWrongFalsely : Prop := treeKeepsRow.holds Tryd.pinned (OpenSpec.ofChange treeKeepsWrong)

/-- 'beaconlaw12.GrowRelinks': WHATEVER THE INPUT: true; the input reads as it did. -/
def growRelinksSpec : ChangeSpec := { name := "growRelinks", fn := fun _ => fun
  | [d1, d2, d3] => { results := [.lit (.bool true)], args := [d1, d2, d3] }
  | _ => none }
def growRelinksRow : OpenClaim := { program := "ytdccehmekkcheaadoor", sum := "dbc38f252747c5c6a406f24a4345bfb8c426bd441e10b6713f69bc2329d35e8f", func := "beacon/beaconlaw12.GrowRelinks", spec := "growRelinks", inPlace := ["internal/bytealg.Compare", "internal/reflectlite.ValueOf", "internal/reflectlite.Swapper", "(internal/reflectlite.Value).Len"], unfollowed := true, recurses := true, named := ["beacon/sha2.k256"], apart := false, laid := [("beacon/sha2.k256", laid_beacon_sha2_k256)] }
def GrowRelinksSaid : Prop := growRelinksRow.holds Tryd.pinned (OpenSpec.ofChange growRelinksSpec)

/-- ITS FALSE NEIGHBOUR: 'it returns false'. Refute it at one input. -/
def growRelinksWrong : ChangeSpec := { name := "growRelinks", fn := fun _ => fun
  | [d1, d2, d3] => { results := [.lit (.bool false)], args := [d1, d2, d3] }
  | _ => none }
def GrowRelinksWrongFalsely : Prop := growRelinksRow.holds Tryd.pinned (OpenSpec.ofChange growRelinksWrong)

/- THE SECOND FORM. 'bulk': how many values and letters a reading holds, each counted each time it is reached (what is shared counts as often as it is met; a slice's spare places count too). A statement '..UptoSaid' is the law's where the arguments, and the package variables that the reading takes, are together of bulk at most 1048576: NARROWER than '..Said'. Prove '..Said' where nothing that the law and all that it calls make is longer than what came in: it says more and counts as full. Else prove '..UptoSaid'. A law counts once. -/
mutual
def uptoBulk {H : Type} : DataW H → Nat
  | .lit (.string bytes) => bytes.length + 1
  | .lit _ => 1
  | .nil => 1
  | .ptr d => uptoBulk d + 1
  | .slice elems spare => uptoBulkAll elems + uptoBulkAll spare + 1
  | .agg parts => uptoBulkAll parts + 1
  | .iface _ d => uptoBulk d + 1
  | .map entries => uptoBulkEntries entries + 1
  | .held _ => 1
def uptoBulkAll {H : Type} : List (DataW H) → Nat
  | [] => 0
  | d :: r => uptoBulk d + uptoBulkAll r
def uptoBulkEntries {H : Type} : List (Lit × DataW H) → Nat
  | [] => 0
  | x :: r => uptoBulkEntry x + uptoBulkEntries r
def uptoBulkEntry {H : Type} : Lit × DataW H → Nat
  | (.string bytes, d) => bytes.length + uptoBulk d + 1
  | (_, d) => uptoBulk d + 1
 end
def uptoSmall : (H : Type) → List (DataW H) → Bool := fun _ ds => decide (uptoBulkAll ds ≤ 1048576)
def OpenSpec.upto (s : _root_.Go.ChangeSpec) : _root_.Go.OpenSpec := { _root_.Go.OpenSpec.ofChange s with cond := some uptoSmall }

/-- 'beaconlaw11.TreeRoots', WHERE WHAT IT READS IS OF BULK AT MOST 1048576: true; the input reads as it did. -/
def treeRootsUptoRow : OpenClaim := { program := "ytdccehmekkcheaadoor", sum := "dbc38f252747c5c6a406f24a4345bfb8c426bd441e10b6713f69bc2329d35e8f", func := "beacon/beaconlaw11.TreeRoots", spec := "treeRoots", inPlace := ["internal/bytealg.Compare", "internal/reflectlite.ValueOf", "internal/reflectlite.Swapper", "(internal/reflectlite.Value).Len"], unfollowed := true, recurses := true, named := ["beacon/sha2.k256"], apart := false, laid := [("beacon/sha2.k256", laid_beacon_sha2_k256)], narrowed := true }
def TreeRootsUptoSaid : Prop := treeRootsUptoRow.holds Tryd.pinned (OpenSpec.upto treeRootsSpec)

/-- 'beaconlaw11.TreeParts', WHERE WHAT IT READS IS OF BULK AT MOST 1048576: true; the input reads as it did. -/
def treePartsUptoRow : OpenClaim := { program := "ytdccehmekkcheaadoor", sum := "dbc38f252747c5c6a406f24a4345bfb8c426bd441e10b6713f69bc2329d35e8f", func := "beacon/beaconlaw11.TreeParts", spec := "treeParts", inPlace := ["internal/bytealg.Compare", "internal/reflectlite.ValueOf", "internal/reflectlite.Swapper", "(internal/reflectlite.Value).Len"], unfollowed := true, recurses := true, named := ["beacon/sha2.k256"], apart := false, laid := [("beacon/sha2.k256", laid_beacon_sha2_k256)], narrowed := true }
def TreePartsUptoSaid : Prop := treePartsUptoRow.holds Tryd.pinned (OpenSpec.upto treePartsSpec)

/-- 'beaconlaw11.TreeNodes', WHERE WHAT IT READS IS OF BULK AT MOST 1048576: true; the input reads as it did. -/
def treeNodesUptoRow : OpenClaim := { program := "ytdccehmekkcheaadoor", sum := "dbc38f252747c5c6a406f24a4345bfb8c426bd441e10b6713f69bc2329d35e8f", func := "beacon/beaconlaw11.TreeNodes", spec := "treeNodes", inPlace := ["internal/bytealg.Compare", "internal/reflectlite.ValueOf", "internal/reflectlite.Swapper", "(internal/reflectlite.Value).Len"], unfollowed := true, recurses := true, named := ["beacon/sha2.k256"], apart := false, laid := [("beacon/sha2.k256", laid_beacon_sha2_k256)], narrowed := true }
def TreeNodesUptoSaid : Prop := treeNodesUptoRow.holds Tryd.pinned (OpenSpec.upto treeNodesSpec)

/-- 'beaconlaw11.TreeFinds', WHERE WHAT IT READS IS OF BULK AT MOST 1048576: true; the input reads as it did. -/
def treeFindsUptoRow : OpenClaim := { program := "ytdccehmekkcheaadoor", sum := "dbc38f252747c5c6a406f24a4345bfb8c426bd441e10b6713f69bc2329d35e8f", func := "beacon/beaconlaw11.TreeFinds", spec := "treeFinds", inPlace := ["internal/bytealg.Compare", "internal/reflectlite.ValueOf", "internal/reflectlite.Swapper", "(internal/reflectlite.Value).Len"], unfollowed := true, recurses := true, named := ["beacon/sha2.k256"], apart := false, laid := [("beacon/sha2.k256", laid_beacon_sha2_k256)], narrowed := true }
def TreeFindsUptoSaid : Prop := treeFindsUptoRow.holds Tryd.pinned (OpenSpec.upto treeFindsSpec)

/-- 'beaconlaw11.TreeOpens', WHERE WHAT IT READS IS OF BULK AT MOST 1048576: true; the input reads as it did. -/
def treeOpensUptoRow : OpenClaim := { program := "ytdccehmekkcheaadoor", sum := "dbc38f252747c5c6a406f24a4345bfb8c426bd441e10b6713f69bc2329d35e8f", func := "beacon/beaconlaw11.TreeOpens", spec := "treeOpens", inPlace := ["internal/bytealg.Compare", "internal/reflectlite.ValueOf", "internal/reflectlite.Swapper", "(internal/reflectlite.Value).Len"], unfollowed := true, recurses := true, named := ["beacon/sha2.k256"], apart := false, laid := [("beacon/sha2.k256", laid_beacon_sha2_k256)], narrowed := true }
def TreeOpensUptoSaid : Prop := treeOpensUptoRow.holds Tryd.pinned (OpenSpec.upto treeOpensSpec)

/-- 'beaconlaw12.GrowStays', WHERE WHAT IT READS IS OF BULK AT MOST 1048576: true; the input reads as it did. -/
def growStaysUptoRow : OpenClaim := { program := "ytdccehmekkcheaadoor", sum := "dbc38f252747c5c6a406f24a4345bfb8c426bd441e10b6713f69bc2329d35e8f", func := "beacon/beaconlaw12.GrowStays", spec := "growStays", inPlace := ["internal/bytealg.Compare", "internal/reflectlite.ValueOf", "internal/reflectlite.Swapper", "(internal/reflectlite.Value).Len"], unfollowed := true, recurses := true, named := ["beacon/sha2.k256"], apart := false, laid := [("beacon/sha2.k256", laid_beacon_sha2_k256)], narrowed := true }
def GrowStaysUptoSaid : Prop := growStaysUptoRow.holds Tryd.pinned (OpenSpec.upto growStaysSpec)

/-- 'beaconlaw12.GrowChecks', WHERE WHAT IT READS IS OF BULK AT MOST 1048576: true; the input reads as it did. -/
def growChecksUptoRow : OpenClaim := { program := "ytdccehmekkcheaadoor", sum := "dbc38f252747c5c6a406f24a4345bfb8c426bd441e10b6713f69bc2329d35e8f", func := "beacon/beaconlaw12.GrowChecks", spec := "growChecks", inPlace := ["internal/bytealg.Compare", "internal/reflectlite.ValueOf", "internal/reflectlite.Swapper", "(internal/reflectlite.Value).Len"], unfollowed := true, recurses := true, named := ["beacon/sha2.k256"], apart := false, laid := [("beacon/sha2.k256", laid_beacon_sha2_k256)], narrowed := true }
def GrowChecksUptoSaid : Prop := growChecksUptoRow.holds Tryd.pinned (OpenSpec.upto growChecksSpec)

/-- 'beaconlaw12.GrowAccepts', WHERE WHAT IT READS IS OF BULK AT MOST 1048576: true; the input reads as it did. -/
def growAcceptsUptoRow : OpenClaim := { program := "ytdccehmekkcheaadoor", sum := "dbc38f252747c5c6a406f24a4345bfb8c426bd441e10b6713f69bc2329d35e8f", func := "beacon/beaconlaw12.GrowAccepts", spec := "growAccepts", inPlace := ["internal/bytealg.Compare", "internal/reflectlite.ValueOf", "internal/reflectlite.Swapper", "(internal/reflectlite.Value).Len"], unfollowed := true, recurses := true, named := ["beacon/sha2.k256"], apart := false, laid := [("beacon/sha2.k256", laid_beacon_sha2_k256)], narrowed := true }
def GrowAcceptsUptoSaid : Prop := growAcceptsUptoRow.holds Tryd.pinned (OpenSpec.upto growAcceptsSpec)

/-- 'beaconlaw12.GrowLeast', WHERE WHAT IT READS IS OF BULK AT MOST 1048576: true; the input reads as it did. -/
def growLeastUptoRow : OpenClaim := { program := "ytdccehmekkcheaadoor", sum := "dbc38f252747c5c6a406f24a4345bfb8c426bd441e10b6713f69bc2329d35e8f", func := "beacon/beaconlaw12.GrowLeast", spec := "growLeast", inPlace := ["internal/bytealg.Compare", "internal/reflectlite.ValueOf", "internal/reflectlite.Swapper", "(internal/reflectlite.Value).Len"], unfollowed := true, recurses := true, named := ["beacon/sha2.k256"], apart := false, laid := [("beacon/sha2.k256", laid_beacon_sha2_k256)], narrowed := true }
def GrowLeastUptoSaid : Prop := growLeastUptoRow.holds Tryd.pinned (OpenSpec.upto growLeastSpec)

/-- 'beaconlaw12.GrowChain', WHERE WHAT IT READS IS OF BULK AT MOST 1048576: true; the input reads as it did. -/
def growChainUptoRow : OpenClaim := { program := "ytdccehmekkcheaadoor", sum := "dbc38f252747c5c6a406f24a4345bfb8c426bd441e10b6713f69bc2329d35e8f", func := "beacon/beaconlaw12.GrowChain", spec := "growChain", inPlace := ["internal/bytealg.Compare", "internal/reflectlite.ValueOf", "internal/reflectlite.Swapper", "(internal/reflectlite.Value).Len"], unfollowed := true, recurses := true, named := ["beacon/sha2.k256"], apart := false, laid := [("beacon/sha2.k256", laid_beacon_sha2_k256)], narrowed := true }
def GrowChainUptoSaid : Prop := growChainUptoRow.holds Tryd.pinned (OpenSpec.upto growChainSpec)

/-- 'beaconlaw12.GrowKeeps', WHERE WHAT IT READS IS OF BULK AT MOST 1048576: true; the input reads as it did. -/
def growKeepsUptoRow : OpenClaim := { program := "ytdccehmekkcheaadoor", sum := "dbc38f252747c5c6a406f24a4345bfb8c426bd441e10b6713f69bc2329d35e8f", func := "beacon/beaconlaw12.GrowKeeps", spec := "growKeeps", inPlace := ["internal/bytealg.Compare", "internal/reflectlite.ValueOf", "internal/reflectlite.Swapper", "(internal/reflectlite.Value).Len"], unfollowed := true, recurses := true, named := ["beacon/sha2.k256"], apart := false, laid := [("beacon/sha2.k256", laid_beacon_sha2_k256)], narrowed := true }
def GrowKeepsUptoSaid : Prop := growKeepsUptoRow.holds Tryd.pinned (OpenSpec.upto growKeepsSpec)

/-- 'beaconlaw11.TreeBack', WHERE WHAT IT READS IS OF BULK AT MOST 1048576: true; the input reads as it did. -/
def treeBackUptoRow : OpenClaim := { program := "ytdccehmekkcheaadoor", sum := "dbc38f252747c5c6a406f24a4345bfb8c426bd441e10b6713f69bc2329d35e8f", func := "beacon/beaconlaw11.TreeBack", spec := "treeBack", inPlace := ["internal/bytealg.Compare", "internal/reflectlite.ValueOf", "internal/reflectlite.Swapper", "(internal/reflectlite.Value).Len"], unfollowed := true, recurses := true, named := ["beacon/sha2.k256"], apart := false, laid := [("beacon/sha2.k256", laid_beacon_sha2_k256)], narrowed := true }
def TreeBackUptoSaid : Prop := treeBackUptoRow.holds Tryd.pinned (OpenSpec.upto treeBackSpec)

/-- 'beaconlaw11.TreeKeeps', WHERE WHAT IT READS IS OF BULK AT MOST 1048576: true; the input reads as it did. -/
def treeKeepsUptoRow : OpenClaim := { program := "ytdccehmekkcheaadoor", sum := "dbc38f252747c5c6a406f24a4345bfb8c426bd441e10b6713f69bc2329d35e8f", func := "beacon/beaconlaw11.TreeKeeps", spec := "treeKeeps", inPlace := ["internal/bytealg.Compare", "internal/reflectlite.ValueOf", "internal/reflectlite.Swapper", "(internal/reflectlite.Value).Len"], unfollowed := true, recurses := true, named := ["beacon/sha2.k256"], apart := false, laid := [("beacon/sha2.k256", laid_beacon_sha2_k256)], narrowed := true }
def TreeKeepsUptoSaid : Prop := treeKeepsUptoRow.holds Tryd.pinned (OpenSpec.upto treeKeepsSpec)

/-- 'beaconlaw12.GrowRelinks', WHERE WHAT IT READS IS OF BULK AT MOST 1048576: true; the input reads as it did. -/
def growRelinksUptoRow : OpenClaim := { program := "ytdccehmekkcheaadoor", sum := "dbc38f252747c5c6a406f24a4345bfb8c426bd441e10b6713f69bc2329d35e8f", func := "beacon/beaconlaw12.GrowRelinks", spec := "growRelinks", inPlace := ["internal/bytealg.Compare", "internal/reflectlite.ValueOf", "internal/reflectlite.Swapper", "(internal/reflectlite.Value).Len"], unfollowed := true, recurses := true, named := ["beacon/sha2.k256"], apart := false, laid := [("beacon/sha2.k256", laid_beacon_sha2_k256)], narrowed := true }
def GrowRelinksUptoSaid : Prop := growRelinksUptoRow.holds Tryd.pinned (OpenSpec.upto growRelinksSpec)

end Rows
end Go.Proofs.YtdccehmekkcheaaDoor

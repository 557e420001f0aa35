/-
  NARROWER THAN 'FOR EVERY INPUT', by the rows' own cells (each row's printed sentence says how): FnExactShaStart: laid · FnExactDigest: laid · FnExactCutDigest: laid · FnExactStartOf: laid · FnExactHmacKey: laid · FnExactShaBlock: laid · FnExactDigestHex: laid · FnExactHmac: laid · FnExactHmacOk: laid · FnExactTokenOf: laid · FnExactCutMark: laid · FnExactJoinMark: laid · FnExactAddrMark: laid · FnExactBackMark: laid · FnExactDoneMark: laid · FnFixed: laid · FnDigests: laid · FnMarks: laid.
  DERIVED. THE GIVEN ROWS OF THIS SEAT. 18 by the template 'for every input the law returns true; each argument reads behind the call as it read before'; 0 by the template 'total and deterministic' (their statements: YtmhekefjlepfpaaDoorTotals.lean).
  GIVEN WITH THE SEED: the statements are not yours to turn. If you find one false, say at which input.
  Laid BY PROGRAM, IN A SANDBOX (cutbox-rows.mjs): the forced cells as the released guide's own fill.sh prints them over the translation f61c47272b4a8738… (all of the seat's roots in one cut). By AI agents, Wed Nov 11 2026. No macro, syntax, notation, axiom, sorry.
-/
import Derived.Test.YtmhekefjlepfpaaDoorChecked
import GoSem.Claim
import GoSem.ClaimJoined
import GoSem.ClaimMapViews
import Derived.JoinedTies
import Derived.KernelRfl
namespace Go.Proofs.YtmhekefjlepfpaaDoor
/- THE CELL 'sum', in the pinned program and in every row, IS THE sha256 OF THE DUMP (.gsa) THAT YtmhekefjlepfpaaDoorProg.lean LOADS. Nothing in Lean hashes anything: it is a label: what it is worth is what the hold of that sum in a sandbox is worth. -/
noncomputable def Tryd.pinned : Pinned := { name := "ytmhekefjlepfpaadoor", sum := "f61c47272b4a87381f8fc2ca62406084d4e8109df6c01a9dfed05dc38b2988d1", checked := Tryd.checked }
namespace Rows
def none {H : Type} : Left H := { results := [], args := [] }

/- WHAT THE LISTED PACKAGE-LEVEL VARIABLES READ AS WHEN THE CALL BEGINS. Each datum BY PROGRAM (the guide's laid-datum.mjs) off the statement by which the dump's own 'gosem.cut.vars' lays the variable. In a bare row this is a premise. The card (YtmhekefjlepfpaaDoorCards.lean) ties it to the program's text. -/
def laid_loop_example_g00967_impl_startWords {H : Type} : DataW H := .agg [.lit (.int .u32 1779033703), .lit (.int .u32 3144134277), .lit (.int .u32 1013904242), .lit (.int .u32 2773480762), .lit (.int .u32 1359893119), .lit (.int .u32 2600822924), .lit (.int .u32 528734635), .lit (.int .u32 1541459225)]
def laid_loop_example_g00967_impl_roundWords {H : Type} : DataW H := .agg [.lit (.int .u32 1116352408), .lit (.int .u32 1899447441), .lit (.int .u32 3049323471), .lit (.int .u32 3921009573), .lit (.int .u32 961987163), .lit (.int .u32 1508970993), .lit (.int .u32 2453635748), .lit (.int .u32 2870763221), .lit (.int .u32 3624381080), .lit (.int .u32 310598401), .lit (.int .u32 607225278), .lit (.int .u32 1426881987), .lit (.int .u32 1925078388), .lit (.int .u32 2162078206), .lit (.int .u32 2614888103), .lit (.int .u32 3248222580), .lit (.int .u32 3835390401), .lit (.int .u32 4022224774), .lit (.int .u32 264347078), .lit (.int .u32 604807628), .lit (.int .u32 770255983), .lit (.int .u32 1249150122), .lit (.int .u32 1555081692), .lit (.int .u32 1996064986), .lit (.int .u32 2554220882), .lit (.int .u32 2821834349), .lit (.int .u32 2952996808), .lit (.int .u32 3210313671), .lit (.int .u32 3336571891), .lit (.int .u32 3584528711), .lit (.int .u32 113926993), .lit (.int .u32 338241895), .lit (.int .u32 666307205), .lit (.int .u32 773529912), .lit (.int .u32 1294757372), .lit (.int .u32 1396182291), .lit (.int .u32 1695183700), .lit (.int .u32 1986661051), .lit (.int .u32 2177026350), .lit (.int .u32 2456956037), .lit (.int .u32 2730485921), .lit (.int .u32 2820302411), .lit (.int .u32 3259730800), .lit (.int .u32 3345764771), .lit (.int .u32 3516065817), .lit (.int .u32 3600352804), .lit (.int .u32 4094571909), .lit (.int .u32 275423344), .lit (.int .u32 430227734), .lit (.int .u32 506948616), .lit (.int .u32 659060556), .lit (.int .u32 883997877), .lit (.int .u32 958139571), .lit (.int .u32 1322822218), .lit (.int .u32 1537002063), .lit (.int .u32 1747873779), .lit (.int .u32 1955562222), .lit (.int .u32 2024104815), .lit (.int .u32 2227730452), .lit (.int .u32 2361852424), .lit (.int .u32 2428436474), .lit (.int .u32 2756734187), .lit (.int .u32 3204031479), .lit (.int .u32 3329325298)]

/-- 'laws.FnExactShaStart': WHATEVER THE INPUT: true; the input reads as it did. -/
def fnExactShaStartSpec : ChangeSpec := { name := "fnExactShaStart", vars := ["loop.example/g00967/impl.startWords"], fn := fun _ => fun
  | [g1] => { results := [.lit (.bool true)], args := [], vars := [g1] }
  | _ => none }
def fnExactShaStartRow : OpenClaim := { program := "ytmhekefjlepfpaadoor", sum := "f61c47272b4a87381f8fc2ca62406084d4e8109df6c01a9dfed05dc38b2988d1", func := "loop.example/g00967/laws.FnExactShaStart", spec := "fnExactShaStart", named := ["loop.example/g00967/impl.startWords"], apart := false, laid := [("loop.example/g00967/impl.startWords", laid_loop_example_g00967_impl_startWords)] }
def FnExactShaStartSaid : Prop := fnExactShaStartRow.holds Tryd.pinned (OpenSpec.ofChange fnExactShaStartSpec)

/-- ITS FALSE NEIGHBOUR: 'it returns false'. Refute it at one input. -/
def fnExactShaStartWrong : ChangeSpec := { name := "fnExactShaStart", vars := ["loop.example/g00967/impl.startWords"], fn := fun _ => fun
  | [g1] => { results := [.lit (.bool false)], args := [], vars := [g1] }
  | _ => none }
def FnExactShaStartWrongFalsely : Prop := fnExactShaStartRow.holds Tryd.pinned (OpenSpec.ofChange fnExactShaStartWrong)

/-- 'laws.FnExactDigest': WHATEVER THE INPUT: true; the input reads as it did. -/
def fnExactDigestSpec : ChangeSpec := { name := "fnExactDigest", vars := ["loop.example/g00967/impl.startWords", "loop.example/g00967/impl.roundWords"], fn := fun _ => fun
  | [d, g1, g2] => { results := [.lit (.bool true)], args := [d], vars := [g1, g2] }
  | _ => none }
def fnExactDigestRow : OpenClaim := { program := "ytmhekefjlepfpaadoor", sum := "f61c47272b4a87381f8fc2ca62406084d4e8109df6c01a9dfed05dc38b2988d1", func := "loop.example/g00967/laws.FnExactDigest", spec := "fnExactDigest", named := ["loop.example/g00967/impl.startWords", "loop.example/g00967/impl.roundWords"], apart := false, laid := [("loop.example/g00967/impl.roundWords", laid_loop_example_g00967_impl_roundWords), ("loop.example/g00967/impl.startWords", laid_loop_example_g00967_impl_startWords)] }
def FnExactDigestSaid : Prop := fnExactDigestRow.holds Tryd.pinned (OpenSpec.ofChange fnExactDigestSpec)

/-- ITS FALSE NEIGHBOUR: 'it returns false'. Refute it at one input. -/
def fnExactDigestWrong : ChangeSpec := { name := "fnExactDigest", vars := ["loop.example/g00967/impl.startWords", "loop.example/g00967/impl.roundWords"], fn := fun _ => fun
  | [d, g1, g2] => { results := [.lit (.bool false)], args := [d], vars := [g1, g2] }
  | _ => none }
def FnExactDigestWrongFalsely : Prop := fnExactDigestRow.holds Tryd.pinned (OpenSpec.ofChange fnExactDigestWrong)

/-- 'laws.FnExactCutDigest': WHATEVER THE INPUT: true; the input reads as it did. -/
def fnExactCutDigestSpec : ChangeSpec := { name := "fnExactCutDigest", vars := ["loop.example/g00967/impl.startWords", "loop.example/g00967/impl.roundWords"], fn := fun _ => fun
  | [d1, d2, g1, g2] => { results := [.lit (.bool true)], args := [d1, d2], vars := [g1, g2] }
  | _ => none }
def fnExactCutDigestRow : OpenClaim := { program := "ytmhekefjlepfpaadoor", sum := "f61c47272b4a87381f8fc2ca62406084d4e8109df6c01a9dfed05dc38b2988d1", func := "loop.example/g00967/laws.FnExactCutDigest", spec := "fnExactCutDigest", named := ["loop.example/g00967/impl.startWords", "loop.example/g00967/impl.roundWords"], apart := false, laid := [("loop.example/g00967/impl.roundWords", laid_loop_example_g00967_impl_roundWords), ("loop.example/g00967/impl.startWords", laid_loop_example_g00967_impl_startWords)] }
def FnExactCutDigestSaid : Prop := fnExactCutDigestRow.holds Tryd.pinned (OpenSpec.ofChange fnExactCutDigestSpec)

/-- ITS FALSE NEIGHBOUR: 'it returns false'. Refute it at one input. -/
def fnExactCutDigestWrong : ChangeSpec := { name := "fnExactCutDigest", vars := ["loop.example/g00967/impl.startWords", "loop.example/g00967/impl.roundWords"], fn := fun _ => fun
  | [d1, d2, g1, g2] => { results := [.lit (.bool false)], args := [d1, d2], vars := [g1, g2] }
  | _ => none }
def FnExactCutDigestWrongFalsely : Prop := fnExactCutDigestRow.holds Tryd.pinned (OpenSpec.ofChange fnExactCutDigestWrong)

/-- 'laws.FnExactStartOf': WHATEVER THE INPUT: true; the input reads as it did. -/
def fnExactStartOfSpec : ChangeSpec := { name := "fnExactStartOf", vars := ["loop.example/g00967/impl.startWords", "loop.example/g00967/impl.roundWords"], fn := fun _ => fun
  | [d, g1, g2] => { results := [.lit (.bool true)], args := [d], vars := [g1, g2] }
  | _ => none }
def fnExactStartOfRow : OpenClaim := { program := "ytmhekefjlepfpaadoor", sum := "f61c47272b4a87381f8fc2ca62406084d4e8109df6c01a9dfed05dc38b2988d1", func := "loop.example/g00967/laws.FnExactStartOf", spec := "fnExactStartOf", named := ["loop.example/g00967/impl.startWords", "loop.example/g00967/impl.roundWords"], apart := false, laid := [("loop.example/g00967/impl.roundWords", laid_loop_example_g00967_impl_roundWords), ("loop.example/g00967/impl.startWords", laid_loop_example_g00967_impl_startWords)] }
def FnExactStartOfSaid : Prop := fnExactStartOfRow.holds Tryd.pinned (OpenSpec.ofChange fnExactStartOfSpec)

/-- ITS FALSE NEIGHBOUR: 'it returns false'. Refute it at one input. -/
def fnExactStartOfWrong : ChangeSpec := { name := "fnExactStartOf", vars := ["loop.example/g00967/impl.startWords", "loop.example/g00967/impl.roundWords"], fn := fun _ => fun
  | [d, g1, g2] => { results := [.lit (.bool false)], args := [d], vars := [g1, g2] }
  | _ => none }
def FnExactStartOfWrongFalsely : Prop := fnExactStartOfRow.holds Tryd.pinned (OpenSpec.ofChange fnExactStartOfWrong)

/-- 'laws.FnExactHmacKey': WHATEVER THE INPUT: true; the input reads as it did. -/
def fnExactHmacKeySpec : ChangeSpec := { name := "fnExactHmacKey", vars := ["loop.example/g00967/impl.startWords", "loop.example/g00967/impl.roundWords"], fn := fun _ => fun
  | [d, g1, g2] => { results := [.lit (.bool true)], args := [d], vars := [g1, g2] }
  | _ => none }
def fnExactHmacKeyRow : OpenClaim := { program := "ytmhekefjlepfpaadoor", sum := "f61c47272b4a87381f8fc2ca62406084d4e8109df6c01a9dfed05dc38b2988d1", func := "loop.example/g00967/laws.FnExactHmacKey", spec := "fnExactHmacKey", named := ["loop.example/g00967/impl.startWords", "loop.example/g00967/impl.roundWords"], apart := false, laid := [("loop.example/g00967/impl.roundWords", laid_loop_example_g00967_impl_roundWords), ("loop.example/g00967/impl.startWords", laid_loop_example_g00967_impl_startWords)] }
def FnExactHmacKeySaid : Prop := fnExactHmacKeyRow.holds Tryd.pinned (OpenSpec.ofChange fnExactHmacKeySpec)

/-- ITS FALSE NEIGHBOUR: 'it returns false'. Refute it at one input. -/
def fnExactHmacKeyWrong : ChangeSpec := { name := "fnExactHmacKey", vars := ["loop.example/g00967/impl.startWords", "loop.example/g00967/impl.roundWords"], fn := fun _ => fun
  | [d, g1, g2] => { results := [.lit (.bool false)], args := [d], vars := [g1, g2] }
  | _ => none }
def FnExactHmacKeyWrongFalsely : Prop := fnExactHmacKeyRow.holds Tryd.pinned (OpenSpec.ofChange fnExactHmacKeyWrong)

/-- 'laws.FnExactShaBlock': WHATEVER THE INPUT: true; the input reads as it did. -/
def fnExactShaBlockSpec : ChangeSpec := { name := "fnExactShaBlock", vars := ["loop.example/g00967/impl.roundWords"], fn := fun _ => fun
  | [d1, d2, g1] => { results := [.lit (.bool true)], args := [d1, d2], vars := [g1] }
  | _ => none }
def fnExactShaBlockRow : OpenClaim := { program := "ytmhekefjlepfpaadoor", sum := "f61c47272b4a87381f8fc2ca62406084d4e8109df6c01a9dfed05dc38b2988d1", func := "loop.example/g00967/laws.FnExactShaBlock", spec := "fnExactShaBlock", named := ["loop.example/g00967/impl.roundWords"], apart := false, laid := [("loop.example/g00967/impl.roundWords", laid_loop_example_g00967_impl_roundWords)] }
def FnExactShaBlockSaid : Prop := fnExactShaBlockRow.holds Tryd.pinned (OpenSpec.ofChange fnExactShaBlockSpec)

/-- ITS FALSE NEIGHBOUR: 'it returns false'. Refute it at one input. -/
def fnExactShaBlockWrong : ChangeSpec := { name := "fnExactShaBlock", vars := ["loop.example/g00967/impl.roundWords"], fn := fun _ => fun
  | [d1, d2, g1] => { results := [.lit (.bool false)], args := [d1, d2], vars := [g1] }
  | _ => none }
def FnExactShaBlockWrongFalsely : Prop := fnExactShaBlockRow.holds Tryd.pinned (OpenSpec.ofChange fnExactShaBlockWrong)

/-- 'laws.FnExactDigestHex': WHATEVER THE INPUT: true; the input reads as it did. -/
def fnExactDigestHexSpec : ChangeSpec := { name := "fnExactDigestHex", vars := ["loop.example/g00967/impl.startWords", "loop.example/g00967/impl.roundWords"], fn := fun _ => fun
  | [d, g1, g2] => { results := [.lit (.bool true)], args := [d], vars := [g1, g2] }
  | _ => none }
def fnExactDigestHexRow : OpenClaim := { program := "ytmhekefjlepfpaadoor", sum := "f61c47272b4a87381f8fc2ca62406084d4e8109df6c01a9dfed05dc38b2988d1", func := "loop.example/g00967/laws.FnExactDigestHex", spec := "fnExactDigestHex", named := ["loop.example/g00967/impl.startWords", "loop.example/g00967/impl.roundWords"], apart := false, laid := [("loop.example/g00967/impl.roundWords", laid_loop_example_g00967_impl_roundWords), ("loop.example/g00967/impl.startWords", laid_loop_example_g00967_impl_startWords)] }
def FnExactDigestHexSaid : Prop := fnExactDigestHexRow.holds Tryd.pinned (OpenSpec.ofChange fnExactDigestHexSpec)

/-- ITS FALSE NEIGHBOUR: 'it returns false'. Refute it at one input. -/
def fnExactDigestHexWrong : ChangeSpec := { name := "fnExactDigestHex", vars := ["loop.example/g00967/impl.startWords", "loop.example/g00967/impl.roundWords"], fn := fun _ => fun
  | [d, g1, g2] => { results := [.lit (.bool false)], args := [d], vars := [g1, g2] }
  | _ => none }
def FnExactDigestHexWrongFalsely : Prop := fnExactDigestHexRow.holds Tryd.pinned (OpenSpec.ofChange fnExactDigestHexWrong)

/-- 'laws.FnExactHmac': WHATEVER THE INPUT: true; the input reads as it did. -/
def fnExactHmacSpec : ChangeSpec := { name := "fnExactHmac", vars := ["loop.example/g00967/impl.startWords", "loop.example/g00967/impl.roundWords"], fn := fun _ => fun
  | [d1, d2, g1, g2] => { results := [.lit (.bool true)], args := [d1, d2], vars := [g1, g2] }
  | _ => none }
def fnExactHmacRow : OpenClaim := { program := "ytmhekefjlepfpaadoor", sum := "f61c47272b4a87381f8fc2ca62406084d4e8109df6c01a9dfed05dc38b2988d1", func := "loop.example/g00967/laws.FnExactHmac", spec := "fnExactHmac", named := ["loop.example/g00967/impl.startWords", "loop.example/g00967/impl.roundWords"], apart := false, laid := [("loop.example/g00967/impl.roundWords", laid_loop_example_g00967_impl_roundWords), ("loop.example/g00967/impl.startWords", laid_loop_example_g00967_impl_startWords)] }
def FnExactHmacSaid : Prop := fnExactHmacRow.holds Tryd.pinned (OpenSpec.ofChange fnExactHmacSpec)

/-- ITS FALSE NEIGHBOUR: 'it returns false'. Refute it at one input. -/
def fnExactHmacWrong : ChangeSpec := { name := "fnExactHmac", vars := ["loop.example/g00967/impl.startWords", "loop.example/g00967/impl.roundWords"], fn := fun _ => fun
  | [d1, d2, g1, g2] => { results := [.lit (.bool false)], args := [d1, d2], vars := [g1, g2] }
  | _ => none }
def FnExactHmacWrongFalsely : Prop := fnExactHmacRow.holds Tryd.pinned (OpenSpec.ofChange fnExactHmacWrong)

/-- 'laws.FnExactHmacOk': WHATEVER THE INPUT: true; the input reads as it did. -/
def fnExactHmacOkSpec : ChangeSpec := { name := "fnExactHmacOk", vars := ["loop.example/g00967/impl.startWords", "loop.example/g00967/impl.roundWords"], fn := fun _ => fun
  | [d1, d2, d3, g1, g2] => { results := [.lit (.bool true)], args := [d1, d2, d3], vars := [g1, g2] }
  | _ => none }
def fnExactHmacOkRow : OpenClaim := { program := "ytmhekefjlepfpaadoor", sum := "f61c47272b4a87381f8fc2ca62406084d4e8109df6c01a9dfed05dc38b2988d1", func := "loop.example/g00967/laws.FnExactHmacOk", spec := "fnExactHmacOk", named := ["loop.example/g00967/impl.startWords", "loop.example/g00967/impl.roundWords"], apart := false, laid := [("loop.example/g00967/impl.roundWords", laid_loop_example_g00967_impl_roundWords), ("loop.example/g00967/impl.startWords", laid_loop_example_g00967_impl_startWords)] }
def FnExactHmacOkSaid : Prop := fnExactHmacOkRow.holds Tryd.pinned (OpenSpec.ofChange fnExactHmacOkSpec)

/-- ITS FALSE NEIGHBOUR: 'it returns false'. Refute it at one input. -/
def fnExactHmacOkWrong : ChangeSpec := { name := "fnExactHmacOk", vars := ["loop.example/g00967/impl.startWords", "loop.example/g00967/impl.roundWords"], fn := fun _ => fun
  | [d1, d2, d3, g1, g2] => { results := [.lit (.bool false)], args := [d1, d2, d3], vars := [g1, g2] }
  | _ => none }
def FnExactHmacOkWrongFalsely : Prop := fnExactHmacOkRow.holds Tryd.pinned (OpenSpec.ofChange fnExactHmacOkWrong)

/-- 'laws.FnExactTokenOf': WHATEVER THE INPUT: true; the input reads as it did. -/
def fnExactTokenOfSpec : ChangeSpec := { name := "fnExactTokenOf", vars := ["loop.example/g00967/impl.startWords", "loop.example/g00967/impl.roundWords"], fn := fun _ => fun
  | [d, g1, g2] => { results := [.lit (.bool true)], args := [d], vars := [g1, g2] }
  | _ => none }
def fnExactTokenOfRow : OpenClaim := { program := "ytmhekefjlepfpaadoor", sum := "f61c47272b4a87381f8fc2ca62406084d4e8109df6c01a9dfed05dc38b2988d1", func := "loop.example/g00967/laws.FnExactTokenOf", spec := "fnExactTokenOf", named := ["loop.example/g00967/impl.startWords", "loop.example/g00967/impl.roundWords"], apart := false, laid := [("loop.example/g00967/impl.roundWords", laid_loop_example_g00967_impl_roundWords), ("loop.example/g00967/impl.startWords", laid_loop_example_g00967_impl_startWords)] }
def FnExactTokenOfSaid : Prop := fnExactTokenOfRow.holds Tryd.pinned (OpenSpec.ofChange fnExactTokenOfSpec)

/-- ITS FALSE NEIGHBOUR: 'it returns false'. Refute it at one input. -/
def fnExactTokenOfWrong : ChangeSpec := { name := "fnExactTokenOf", vars := ["loop.example/g00967/impl.startWords", "loop.example/g00967/impl.roundWords"], fn := fun _ => fun
  | [d, g1, g2] => { results := [.lit (.bool false)], args := [d], vars := [g1, g2] }
  | _ => none }
def FnExactTokenOfWrongFalsely : Prop := fnExactTokenOfRow.holds Tryd.pinned (OpenSpec.ofChange fnExactTokenOfWrong)

/-- 'laws.FnExactCutMark': WHATEVER THE INPUT: true; the input reads as it did. -/
def fnExactCutMarkSpec : ChangeSpec := { name := "fnExactCutMark", vars := ["loop.example/g00967/impl.startWords", "loop.example/g00967/impl.roundWords"], fn := fun _ => fun
  | [d1, d2, d3, g1, g2] => { results := [.lit (.bool true)], args := [d1, d2, d3], vars := [g1, g2] }
  | _ => none }
def fnExactCutMarkRow : OpenClaim := { program := "ytmhekefjlepfpaadoor", sum := "f61c47272b4a87381f8fc2ca62406084d4e8109df6c01a9dfed05dc38b2988d1", func := "loop.example/g00967/laws.FnExactCutMark", spec := "fnExactCutMark", named := ["loop.example/g00967/impl.startWords", "loop.example/g00967/impl.roundWords"], apart := false, laid := [("loop.example/g00967/impl.roundWords", laid_loop_example_g00967_impl_roundWords), ("loop.example/g00967/impl.startWords", laid_loop_example_g00967_impl_startWords)] }
def FnExactCutMarkSaid : Prop := fnExactCutMarkRow.holds Tryd.pinned (OpenSpec.ofChange fnExactCutMarkSpec)

/-- ITS FALSE NEIGHBOUR: 'it returns false'. Refute it at one input. -/
def fnExactCutMarkWrong : ChangeSpec := { name := "fnExactCutMark", vars := ["loop.example/g00967/impl.startWords", "loop.example/g00967/impl.roundWords"], fn := fun _ => fun
  | [d1, d2, d3, g1, g2] => { results := [.lit (.bool false)], args := [d1, d2, d3], vars := [g1, g2] }
  | _ => none }
def FnExactCutMarkWrongFalsely : Prop := fnExactCutMarkRow.holds Tryd.pinned (OpenSpec.ofChange fnExactCutMarkWrong)

/-- 'laws.FnExactJoinMark': WHATEVER THE INPUT: true; the input reads as it did. -/
def fnExactJoinMarkSpec : ChangeSpec := { name := "fnExactJoinMark", vars := ["loop.example/g00967/impl.startWords", "loop.example/g00967/impl.roundWords"], fn := fun _ => fun
  | [d1, d2, d3, d4, g1, g2] => { results := [.lit (.bool true)], args := [d1, d2, d3, d4], vars := [g1, g2] }
  | _ => none }
def fnExactJoinMarkRow : OpenClaim := { program := "ytmhekefjlepfpaadoor", sum := "f61c47272b4a87381f8fc2ca62406084d4e8109df6c01a9dfed05dc38b2988d1", func := "loop.example/g00967/laws.FnExactJoinMark", spec := "fnExactJoinMark", named := ["loop.example/g00967/impl.startWords", "loop.example/g00967/impl.roundWords"], apart := false, laid := [("loop.example/g00967/impl.roundWords", laid_loop_example_g00967_impl_roundWords), ("loop.example/g00967/impl.startWords", laid_loop_example_g00967_impl_startWords)] }
def FnExactJoinMarkSaid : Prop := fnExactJoinMarkRow.holds Tryd.pinned (OpenSpec.ofChange fnExactJoinMarkSpec)

/-- ITS FALSE NEIGHBOUR: 'it returns false'. Refute it at one input. -/
def fnExactJoinMarkWrong : ChangeSpec := { name := "fnExactJoinMark", vars := ["loop.example/g00967/impl.startWords", "loop.example/g00967/impl.roundWords"], fn := fun _ => fun
  | [d1, d2, d3, d4, g1, g2] => { results := [.lit (.bool false)], args := [d1, d2, d3, d4], vars := [g1, g2] }
  | _ => none }
def FnExactJoinMarkWrongFalsely : Prop := fnExactJoinMarkRow.holds Tryd.pinned (OpenSpec.ofChange fnExactJoinMarkWrong)

/-- 'laws.FnExactAddrMark': WHATEVER THE INPUT: true; the input reads as it did. -/
def fnExactAddrMarkSpec : ChangeSpec := { name := "fnExactAddrMark", vars := ["loop.example/g00967/impl.startWords", "loop.example/g00967/impl.roundWords"], fn := fun _ => fun
  | [d1, d2, d3, d4, d5, g1, g2] => { results := [.lit (.bool true)], args := [d1, d2, d3, d4, d5], vars := [g1, g2] }
  | _ => none }
def fnExactAddrMarkRow : OpenClaim := { program := "ytmhekefjlepfpaadoor", sum := "f61c47272b4a87381f8fc2ca62406084d4e8109df6c01a9dfed05dc38b2988d1", func := "loop.example/g00967/laws.FnExactAddrMark", spec := "fnExactAddrMark", named := ["loop.example/g00967/impl.startWords", "loop.example/g00967/impl.roundWords"], apart := false, laid := [("loop.example/g00967/impl.roundWords", laid_loop_example_g00967_impl_roundWords), ("loop.example/g00967/impl.startWords", laid_loop_example_g00967_impl_startWords)] }
def FnExactAddrMarkSaid : Prop := fnExactAddrMarkRow.holds Tryd.pinned (OpenSpec.ofChange fnExactAddrMarkSpec)

/-- ITS FALSE NEIGHBOUR: 'it returns false'. Refute it at one input. -/
def fnExactAddrMarkWrong : ChangeSpec := { name := "fnExactAddrMark", vars := ["loop.example/g00967/impl.startWords", "loop.example/g00967/impl.roundWords"], fn := fun _ => fun
  | [d1, d2, d3, d4, d5, g1, g2] => { results := [.lit (.bool false)], args := [d1, d2, d3, d4, d5], vars := [g1, g2] }
  | _ => none }
def FnExactAddrMarkWrongFalsely : Prop := fnExactAddrMarkRow.holds Tryd.pinned (OpenSpec.ofChange fnExactAddrMarkWrong)

/-- 'laws.FnExactBackMark': WHATEVER THE INPUT: true; the input reads as it did. -/
def fnExactBackMarkSpec : ChangeSpec := { name := "fnExactBackMark", vars := ["loop.example/g00967/impl.startWords", "loop.example/g00967/impl.roundWords"], fn := fun _ => fun
  | [d1, d2, d3, d4, g1, g2] => { results := [.lit (.bool true)], args := [d1, d2, d3, d4], vars := [g1, g2] }
  | _ => none }
def fnExactBackMarkRow : OpenClaim := { program := "ytmhekefjlepfpaadoor", sum := "f61c47272b4a87381f8fc2ca62406084d4e8109df6c01a9dfed05dc38b2988d1", func := "loop.example/g00967/laws.FnExactBackMark", spec := "fnExactBackMark", named := ["loop.example/g00967/impl.startWords", "loop.example/g00967/impl.roundWords"], apart := false, laid := [("loop.example/g00967/impl.roundWords", laid_loop_example_g00967_impl_roundWords), ("loop.example/g00967/impl.startWords", laid_loop_example_g00967_impl_startWords)] }
def FnExactBackMarkSaid : Prop := fnExactBackMarkRow.holds Tryd.pinned (OpenSpec.ofChange fnExactBackMarkSpec)

/-- ITS FALSE NEIGHBOUR: 'it returns false'. Refute it at one input. -/
def fnExactBackMarkWrong : ChangeSpec := { name := "fnExactBackMark", vars := ["loop.example/g00967/impl.startWords", "loop.example/g00967/impl.roundWords"], fn := fun _ => fun
  | [d1, d2, d3, d4, g1, g2] => { results := [.lit (.bool false)], args := [d1, d2, d3, d4], vars := [g1, g2] }
  | _ => none }
def FnExactBackMarkWrongFalsely : Prop := fnExactBackMarkRow.holds Tryd.pinned (OpenSpec.ofChange fnExactBackMarkWrong)

/-- 'laws.FnExactDoneMark': WHATEVER THE INPUT: true; the input reads as it did. -/
def fnExactDoneMarkSpec : ChangeSpec := { name := "fnExactDoneMark", vars := ["loop.example/g00967/impl.startWords", "loop.example/g00967/impl.roundWords"], fn := fun _ => fun
  | [d1, d2, d3, d4, g1, g2] => { results := [.lit (.bool true)], args := [d1, d2, d3, d4], vars := [g1, g2] }
  | _ => none }
def fnExactDoneMarkRow : OpenClaim := { program := "ytmhekefjlepfpaadoor", sum := "f61c47272b4a87381f8fc2ca62406084d4e8109df6c01a9dfed05dc38b2988d1", func := "loop.example/g00967/laws.FnExactDoneMark", spec := "fnExactDoneMark", named := ["loop.example/g00967/impl.startWords", "loop.example/g00967/impl.roundWords"], apart := false, laid := [("loop.example/g00967/impl.roundWords", laid_loop_example_g00967_impl_roundWords), ("loop.example/g00967/impl.startWords", laid_loop_example_g00967_impl_startWords)] }
def FnExactDoneMarkSaid : Prop := fnExactDoneMarkRow.holds Tryd.pinned (OpenSpec.ofChange fnExactDoneMarkSpec)

/-- ITS FALSE NEIGHBOUR: 'it returns false'. Refute it at one input. -/
def fnExactDoneMarkWrong : ChangeSpec := { name := "fnExactDoneMark", vars := ["loop.example/g00967/impl.startWords", "loop.example/g00967/impl.roundWords"], fn := fun _ => fun
  | [d1, d2, d3, d4, g1, g2] => { results := [.lit (.bool false)], args := [d1, d2, d3, d4], vars := [g1, g2] }
  | _ => none }
def FnExactDoneMarkWrongFalsely : Prop := fnExactDoneMarkRow.holds Tryd.pinned (OpenSpec.ofChange fnExactDoneMarkWrong)

/-- 'laws.FnFixed': WHATEVER THE INPUT: true; the input reads as it did. -/
def fnFixedSpec : ChangeSpec := { name := "fnFixed", vars := ["loop.example/g00967/impl.startWords", "loop.example/g00967/impl.roundWords"], fn := fun _ => fun
  | [d, g1, g2] => { results := [.lit (.bool true)], args := [d], vars := [g1, g2] }
  | _ => none }
def fnFixedRow : OpenClaim := { program := "ytmhekefjlepfpaadoor", sum := "f61c47272b4a87381f8fc2ca62406084d4e8109df6c01a9dfed05dc38b2988d1", func := "loop.example/g00967/laws.FnFixed", spec := "fnFixed", named := ["loop.example/g00967/impl.startWords", "loop.example/g00967/impl.roundWords"], apart := false, laid := [("loop.example/g00967/impl.roundWords", laid_loop_example_g00967_impl_roundWords), ("loop.example/g00967/impl.startWords", laid_loop_example_g00967_impl_startWords)] }
def FnFixedSaid : Prop := fnFixedRow.holds Tryd.pinned (OpenSpec.ofChange fnFixedSpec)

/-- ITS FALSE NEIGHBOUR: 'it returns false'. Refute it at one input. -/
def fnFixedWrong : ChangeSpec := { name := "fnFixed", vars := ["loop.example/g00967/impl.startWords", "loop.example/g00967/impl.roundWords"], fn := fun _ => fun
  | [d, g1, g2] => { results := [.lit (.bool false)], args := [d], vars := [g1, g2] }
  | _ => none }
def FnFixedWrongFalsely : Prop := fnFixedRow.holds Tryd.pinned (OpenSpec.ofChange fnFixedWrong)

/-- 'laws.FnDigests': WHATEVER THE INPUT: true; the input reads as it did. -/
def fnDigestsSpec : ChangeSpec := { name := "fnDigests", vars := ["loop.example/g00967/impl.startWords", "loop.example/g00967/impl.roundWords"], fn := fun _ => fun
  | [d, g1, g2] => { results := [.lit (.bool true)], args := [d], vars := [g1, g2] }
  | _ => none }
def fnDigestsRow : OpenClaim := { program := "ytmhekefjlepfpaadoor", sum := "f61c47272b4a87381f8fc2ca62406084d4e8109df6c01a9dfed05dc38b2988d1", func := "loop.example/g00967/laws.FnDigests", spec := "fnDigests", named := ["loop.example/g00967/impl.startWords", "loop.example/g00967/impl.roundWords"], apart := false, laid := [("loop.example/g00967/impl.roundWords", laid_loop_example_g00967_impl_roundWords), ("loop.example/g00967/impl.startWords", laid_loop_example_g00967_impl_startWords)] }
def FnDigestsSaid : Prop := fnDigestsRow.holds Tryd.pinned (OpenSpec.ofChange fnDigestsSpec)

/-- ITS FALSE NEIGHBOUR: 'it returns false'. Refute it at one input. -/
def fnDigestsWrong : ChangeSpec := { name := "fnDigests", vars := ["loop.example/g00967/impl.startWords", "loop.example/g00967/impl.roundWords"], fn := fun _ => fun
  | [d, g1, g2] => { results := [.lit (.bool false)], args := [d], vars := [g1, g2] }
  | _ => none }
def FnDigestsWrongFalsely : Prop := fnDigestsRow.holds Tryd.pinned (OpenSpec.ofChange fnDigestsWrong)

/-- 'laws.FnMarks': WHATEVER THE INPUT: true; the input reads as it did. -/
def fnMarksSpec : ChangeSpec := { name := "fnMarks", vars := ["loop.example/g00967/impl.startWords", "loop.example/g00967/impl.roundWords"], fn := fun _ => fun
  | [d, g1, g2] => { results := [.lit (.bool true)], args := [d], vars := [g1, g2] }
  | _ => none }
def fnMarksRow : OpenClaim := { program := "ytmhekefjlepfpaadoor", sum := "f61c47272b4a87381f8fc2ca62406084d4e8109df6c01a9dfed05dc38b2988d1", func := "loop.example/g00967/laws.FnMarks", spec := "fnMarks", named := ["loop.example/g00967/impl.startWords", "loop.example/g00967/impl.roundWords"], apart := false, laid := [("loop.example/g00967/impl.roundWords", laid_loop_example_g00967_impl_roundWords), ("loop.example/g00967/impl.startWords", laid_loop_example_g00967_impl_startWords)] }
def FnMarksSaid : Prop := fnMarksRow.holds Tryd.pinned (OpenSpec.ofChange fnMarksSpec)

/-- ITS FALSE NEIGHBOUR: 'it returns false'. Refute it at one input. -/
def fnMarksWrong : ChangeSpec := { name := "fnMarks", vars := ["loop.example/g00967/impl.startWords", "loop.example/g00967/impl.roundWords"], fn := fun _ => fun
  | [d, g1, g2] => { results := [.lit (.bool false)], args := [d], vars := [g1, g2] }
  | _ => none }
def FnMarksWrongFalsely : Prop := fnMarksRow.holds Tryd.pinned (OpenSpec.ofChange fnMarksWrong)

/- THE SECOND FORM. 'bulk': how many values and letters a reading holds, each counted each time it is reached (what is shared counts as often as it is met; a slice's spare places count too). A statement '..UptoSaid' is the law's where the arguments, and the package variables that the reading takes, are together of bulk at most 1048576: NARROWER than '..Said'. Prove '..Said' where nothing that the law and all that it calls make is longer than what came in: it says more and counts as full. Else prove '..UptoSaid'. A law counts once. -/
mutual
def uptoBulk {H : Type} : DataW H → Nat
  | .lit (.string bytes) => bytes.length + 1
  | .lit _ => 1
  | .nil => 1
  | .ptr d => uptoBulk d + 1
  | .slice elems spare => uptoBulkAll elems + uptoBulkAll spare + 1
  | .agg parts => uptoBulkAll parts + 1
  | .iface _ d => uptoBulk d + 1
  | .map entries => uptoBulkEntries entries + 1
  | .held _ => 1
def uptoBulkAll {H : Type} : List (DataW H) → Nat
  | [] => 0
  | d :: r => uptoBulk d + uptoBulkAll r
def uptoBulkEntries {H : Type} : List (Lit × DataW H) → Nat
  | [] => 0
  | x :: r => uptoBulkEntry x + uptoBulkEntries r
def uptoBulkEntry {H : Type} : Lit × DataW H → Nat
  | (.string bytes, d) => bytes.length + uptoBulk d + 1
  | (_, d) => uptoBulk d + 1
 end
def uptoSmall : (H : Type) → List (DataW H) → Bool := fun _ ds => decide (uptoBulkAll ds ≤ 1048576)
def OpenSpec.upto (s : _root_.Go.ChangeSpec) : _root_.Go.OpenSpec := { _root_.Go.OpenSpec.ofChange s with cond := some uptoSmall }

/-- 'laws.FnExactShaStart', WHERE WHAT IT READS IS OF BULK AT MOST 1048576: true; the input reads as it did. -/
def fnExactShaStartUptoRow : OpenClaim := { program := "ytmhekefjlepfpaadoor", sum := "f61c47272b4a87381f8fc2ca62406084d4e8109df6c01a9dfed05dc38b2988d1", func := "loop.example/g00967/laws.FnExactShaStart", spec := "fnExactShaStart", named := ["loop.example/g00967/impl.startWords"], apart := false, laid := [("loop.example/g00967/impl.startWords", laid_loop_example_g00967_impl_startWords)], narrowed := true }
def FnExactShaStartUptoSaid : Prop := fnExactShaStartUptoRow.holds Tryd.pinned (OpenSpec.upto fnExactShaStartSpec)

/-- 'laws.FnExactDigest', WHERE WHAT IT READS IS OF BULK AT MOST 1048576: true; the input reads as it did. -/
def fnExactDigestUptoRow : OpenClaim := { program := "ytmhekefjlepfpaadoor", sum := "f61c47272b4a87381f8fc2ca62406084d4e8109df6c01a9dfed05dc38b2988d1", func := "loop.example/g00967/laws.FnExactDigest", spec := "fnExactDigest", named := ["loop.example/g00967/impl.startWords", "loop.example/g00967/impl.roundWords"], apart := false, laid := [("loop.example/g00967/impl.roundWords", laid_loop_example_g00967_impl_roundWords), ("loop.example/g00967/impl.startWords", laid_loop_example_g00967_impl_startWords)], narrowed := true }
def FnExactDigestUptoSaid : Prop := fnExactDigestUptoRow.holds Tryd.pinned (OpenSpec.upto fnExactDigestSpec)

/-- 'laws.FnExactCutDigest', WHERE WHAT IT READS IS OF BULK AT MOST 1048576: true; the input reads as it did. -/
def fnExactCutDigestUptoRow : OpenClaim := { program := "ytmhekefjlepfpaadoor", sum := "f61c47272b4a87381f8fc2ca62406084d4e8109df6c01a9dfed05dc38b2988d1", func := "loop.example/g00967/laws.FnExactCutDigest", spec := "fnExactCutDigest", named := ["loop.example/g00967/impl.startWords", "loop.example/g00967/impl.roundWords"], apart := false, laid := [("loop.example/g00967/impl.roundWords", laid_loop_example_g00967_impl_roundWords), ("loop.example/g00967/impl.startWords", laid_loop_example_g00967_impl_startWords)], narrowed := true }
def FnExactCutDigestUptoSaid : Prop := fnExactCutDigestUptoRow.holds Tryd.pinned (OpenSpec.upto fnExactCutDigestSpec)

/-- 'laws.FnExactStartOf', WHERE WHAT IT READS IS OF BULK AT MOST 1048576: true; the input reads as it did. -/
def fnExactStartOfUptoRow : OpenClaim := { program := "ytmhekefjlepfpaadoor", sum := "f61c47272b4a87381f8fc2ca62406084d4e8109df6c01a9dfed05dc38b2988d1", func := "loop.example/g00967/laws.FnExactStartOf", spec := "fnExactStartOf", named := ["loop.example/g00967/impl.startWords", "loop.example/g00967/impl.roundWords"], apart := false, laid := [("loop.example/g00967/impl.roundWords", laid_loop_example_g00967_impl_roundWords), ("loop.example/g00967/impl.startWords", laid_loop_example_g00967_impl_startWords)], narrowed := true }
def FnExactStartOfUptoSaid : Prop := fnExactStartOfUptoRow.holds Tryd.pinned (OpenSpec.upto fnExactStartOfSpec)

/-- 'laws.FnExactHmacKey', WHERE WHAT IT READS IS OF BULK AT MOST 1048576: true; the input reads as it did. -/
def fnExactHmacKeyUptoRow : OpenClaim := { program := "ytmhekefjlepfpaadoor", sum := "f61c47272b4a87381f8fc2ca62406084d4e8109df6c01a9dfed05dc38b2988d1", func := "loop.example/g00967/laws.FnExactHmacKey", spec := "fnExactHmacKey", named := ["loop.example/g00967/impl.startWords", "loop.example/g00967/impl.roundWords"], apart := false, laid := [("loop.example/g00967/impl.roundWords", laid_loop_example_g00967_impl_roundWords), ("loop.example/g00967/impl.startWords", laid_loop_example_g00967_impl_startWords)], narrowed := true }
def FnExactHmacKeyUptoSaid : Prop := fnExactHmacKeyUptoRow.holds Tryd.pinned (OpenSpec.upto fnExactHmacKeySpec)

/-- 'laws.FnExactShaBlock', WHERE WHAT IT READS IS OF BULK AT MOST 1048576: true; the input reads as it did. -/
def fnExactShaBlockUptoRow : OpenClaim := { program := "ytmhekefjlepfpaadoor", sum := "f61c47272b4a87381f8fc2ca62406084d4e8109df6c01a9dfed05dc38b2988d1", func := "loop.example/g00967/laws.FnExactShaBlock", spec := "fnExactShaBlock", named := ["loop.example/g00967/impl.roundWords"], apart := false, laid := [("loop.example/g00967/impl.roundWords", laid_loop_example_g00967_impl_roundWords)], narrowed := true }
def FnExactShaBlockUptoSaid : Prop := fnExactShaBlockUptoRow.holds Tryd.pinned (OpenSpec.upto fnExactShaBlockSpec)

/-- 'laws.FnExactDigestHex', WHERE WHAT IT READS IS OF BULK AT MOST 1048576: true; the input reads as it did. -/
def fnExactDigestHexUptoRow : OpenClaim := { program := "ytmhekefjlepfpaadoor", sum := "f61c47272b4a87381f8fc2ca62406084d4e8109df6c01a9dfed05dc38b2988d1", func := "loop.example/g00967/laws.FnExactDigestHex", spec := "fnExactDigestHex", named := ["loop.example/g00967/impl.startWords", "loop.example/g00967/impl.roundWords"], apart := false, laid := [("loop.example/g00967/impl.roundWords", laid_loop_example_g00967_impl_roundWords), ("loop.example/g00967/impl.startWords", laid_loop_example_g00967_impl_startWords)], narrowed := true }
def FnExactDigestHexUptoSaid : Prop := fnExactDigestHexUptoRow.holds Tryd.pinned (OpenSpec.upto fnExactDigestHexSpec)

/-- 'laws.FnExactHmac', WHERE WHAT IT READS IS OF BULK AT MOST 1048576: true; the input reads as it did. -/
def fnExactHmacUptoRow : OpenClaim := { program := "ytmhekefjlepfpaadoor", sum := "f61c47272b4a87381f8fc2ca62406084d4e8109df6c01a9dfed05dc38b2988d1", func := "loop.example/g00967/laws.FnExactHmac", spec := "fnExactHmac", named := ["loop.example/g00967/impl.startWords", "loop.example/g00967/impl.roundWords"], apart := false, laid := [("loop.example/g00967/impl.roundWords", laid_loop_example_g00967_impl_roundWords), ("loop.example/g00967/impl.startWords", laid_loop_example_g00967_impl_startWords)], narrowed := true }
def FnExactHmacUptoSaid : Prop := fnExactHmacUptoRow.holds Tryd.pinned (OpenSpec.upto fnExactHmacSpec)

/-- 'laws.FnExactHmacOk', WHERE WHAT IT READS IS OF BULK AT MOST 1048576: true; the input reads as it did. -/
def fnExactHmacOkUptoRow : OpenClaim := { program := "ytmhekefjlepfpaadoor", sum := "f61c47272b4a87381f8fc2ca62406084d4e8109df6c01a9dfed05dc38b2988d1", func := "loop.example/g00967/laws.FnExactHmacOk", spec := "fnExactHmacOk", named := ["loop.example/g00967/impl.startWords", "loop.example/g00967/impl.roundWords"], apart := false, laid := [("loop.example/g00967/impl.roundWords", laid_loop_example_g00967_impl_roundWords), ("loop.example/g00967/impl.startWords", laid_loop_example_g00967_impl_startWords)], narrowed := true }
def FnExactHmacOkUptoSaid : Prop := fnExactHmacOkUptoRow.holds Tryd.pinned (OpenSpec.upto fnExactHmacOkSpec)

/-- 'laws.FnExactTokenOf', WHERE WHAT IT READS IS OF BULK AT MOST 1048576: true; the input reads as it did. -/
def fnExactTokenOfUptoRow : OpenClaim := { program := "ytmhekefjlepfpaadoor", sum := "f61c47272b4a87381f8fc2ca62406084d4e8109df6c01a9dfed05dc38b2988d1", func := "loop.example/g00967/laws.FnExactTokenOf", spec := "fnExactTokenOf", named := ["loop.example/g00967/impl.startWords", "loop.example/g00967/impl.roundWords"], apart := false, laid := [("loop.example/g00967/impl.roundWords", laid_loop_example_g00967_impl_roundWords), ("loop.example/g00967/impl.startWords", laid_loop_example_g00967_impl_startWords)], narrowed := true }
def FnExactTokenOfUptoSaid : Prop := fnExactTokenOfUptoRow.holds Tryd.pinned (OpenSpec.upto fnExactTokenOfSpec)

/-- 'laws.FnExactCutMark', WHERE WHAT IT READS IS OF BULK AT MOST 1048576: true; the input reads as it did. -/
def fnExactCutMarkUptoRow : OpenClaim := { program := "ytmhekefjlepfpaadoor", sum := "f61c47272b4a87381f8fc2ca62406084d4e8109df6c01a9dfed05dc38b2988d1", func := "loop.example/g00967/laws.FnExactCutMark", spec := "fnExactCutMark", named := ["loop.example/g00967/impl.startWords", "loop.example/g00967/impl.roundWords"], apart := false, laid := [("loop.example/g00967/impl.roundWords", laid_loop_example_g00967_impl_roundWords), ("loop.example/g00967/impl.startWords", laid_loop_example_g00967_impl_startWords)], narrowed := true }
def FnExactCutMarkUptoSaid : Prop := fnExactCutMarkUptoRow.holds Tryd.pinned (OpenSpec.upto fnExactCutMarkSpec)

/-- 'laws.FnExactJoinMark', WHERE WHAT IT READS IS OF BULK AT MOST 1048576: true; the input reads as it did. -/
def fnExactJoinMarkUptoRow : OpenClaim := { program := "ytmhekefjlepfpaadoor", sum := "f61c47272b4a87381f8fc2ca62406084d4e8109df6c01a9dfed05dc38b2988d1", func := "loop.example/g00967/laws.FnExactJoinMark", spec := "fnExactJoinMark", named := ["loop.example/g00967/impl.startWords", "loop.example/g00967/impl.roundWords"], apart := false, laid := [("loop.example/g00967/impl.roundWords", laid_loop_example_g00967_impl_roundWords), ("loop.example/g00967/impl.startWords", laid_loop_example_g00967_impl_startWords)], narrowed := true }
def FnExactJoinMarkUptoSaid : Prop := fnExactJoinMarkUptoRow.holds Tryd.pinned (OpenSpec.upto fnExactJoinMarkSpec)

/-- 'laws.FnExactAddrMark', WHERE WHAT IT READS IS OF BULK AT MOST 1048576: true; the input reads as it did. -/
def fnExactAddrMarkUptoRow : OpenClaim := { program := "ytmhekefjlepfpaadoor", sum := "f61c47272b4a87381f8fc2ca62406084d4e8109df6c01a9dfed05dc38b2988d1", func := "loop.example/g00967/laws.FnExactAddrMark", spec := "fnExactAddrMark", named := ["loop.example/g00967/impl.startWords", "loop.example/g00967/impl.roundWords"], apart := false, laid := [("loop.example/g00967/impl.roundWords", laid_loop_example_g00967_impl_roundWords), ("loop.example/g00967/impl.startWords", laid_loop_example_g00967_impl_startWords)], narrowed := true }
def FnExactAddrMarkUptoSaid : Prop := fnExactAddrMarkUptoRow.holds Tryd.pinned (OpenSpec.upto fnExactAddrMarkSpec)

/-- 'laws.FnExactBackMark', WHERE WHAT IT READS IS OF BULK AT MOST 1048576: true; the input reads as it did. -/
def fnExactBackMarkUptoRow : OpenClaim := { program := "ytmhekefjlepfpaadoor", sum := "f61c47272b4a87381f8fc2ca62406084d4e8109df6c01a9dfed05dc38b2988d1", func := "loop.example/g00967/laws.FnExactBackMark", spec := "fnExactBackMark", named := ["loop.example/g00967/impl.startWords", "loop.example/g00967/impl.roundWords"], apart := false, laid := [("loop.example/g00967/impl.roundWords", laid_loop_example_g00967_impl_roundWords), ("loop.example/g00967/impl.startWords", laid_loop_example_g00967_impl_startWords)], narrowed := true }
def FnExactBackMarkUptoSaid : Prop := fnExactBackMarkUptoRow.holds Tryd.pinned (OpenSpec.upto fnExactBackMarkSpec)

/-- 'laws.FnExactDoneMark', WHERE WHAT IT READS IS OF BULK AT MOST 1048576: true; the input reads as it did. -/
def fnExactDoneMarkUptoRow : OpenClaim := { program := "ytmhekefjlepfpaadoor", sum := "f61c47272b4a87381f8fc2ca62406084d4e8109df6c01a9dfed05dc38b2988d1", func := "loop.example/g00967/laws.FnExactDoneMark", spec := "fnExactDoneMark", named := ["loop.example/g00967/impl.startWords", "loop.example/g00967/impl.roundWords"], apart := false, laid := [("loop.example/g00967/impl.roundWords", laid_loop_example_g00967_impl_roundWords), ("loop.example/g00967/impl.startWords", laid_loop_example_g00967_impl_startWords)], narrowed := true }
def FnExactDoneMarkUptoSaid : Prop := fnExactDoneMarkUptoRow.holds Tryd.pinned (OpenSpec.upto fnExactDoneMarkSpec)

/-- 'laws.FnFixed', WHERE WHAT IT READS IS OF BULK AT MOST 1048576: true; the input reads as it did. -/
def fnFixedUptoRow : OpenClaim := { program := "ytmhekefjlepfpaadoor", sum := "f61c47272b4a87381f8fc2ca62406084d4e8109df6c01a9dfed05dc38b2988d1", func := "loop.example/g00967/laws.FnFixed", spec := "fnFixed", named := ["loop.example/g00967/impl.startWords", "loop.example/g00967/impl.roundWords"], apart := false, laid := [("loop.example/g00967/impl.roundWords", laid_loop_example_g00967_impl_roundWords), ("loop.example/g00967/impl.startWords", laid_loop_example_g00967_impl_startWords)], narrowed := true }
def FnFixedUptoSaid : Prop := fnFixedUptoRow.holds Tryd.pinned (OpenSpec.upto fnFixedSpec)

/-- 'laws.FnDigests', WHERE WHAT IT READS IS OF BULK AT MOST 1048576: true; the input reads as it did. -/
def fnDigestsUptoRow : OpenClaim := { program := "ytmhekefjlepfpaadoor", sum := "f61c47272b4a87381f8fc2ca62406084d4e8109df6c01a9dfed05dc38b2988d1", func := "loop.example/g00967/laws.FnDigests", spec := "fnDigests", named := ["loop.example/g00967/impl.startWords", "loop.example/g00967/impl.roundWords"], apart := false, laid := [("loop.example/g00967/impl.roundWords", laid_loop_example_g00967_impl_roundWords), ("loop.example/g00967/impl.startWords", laid_loop_example_g00967_impl_startWords)], narrowed := true }
def FnDigestsUptoSaid : Prop := fnDigestsUptoRow.holds Tryd.pinned (OpenSpec.upto fnDigestsSpec)

/-- 'laws.FnMarks', WHERE WHAT IT READS IS OF BULK AT MOST 1048576: true; the input reads as it did. -/
def fnMarksUptoRow : OpenClaim := { program := "ytmhekefjlepfpaadoor", sum := "f61c47272b4a87381f8fc2ca62406084d4e8109df6c01a9dfed05dc38b2988d1", func := "loop.example/g00967/laws.FnMarks", spec := "fnMarks", named := ["loop.example/g00967/impl.startWords", "loop.example/g00967/impl.roundWords"], apart := false, laid := [("loop.example/g00967/impl.roundWords", laid_loop_example_g00967_impl_roundWords), ("loop.example/g00967/impl.startWords", laid_loop_example_g00967_impl_startWords)], narrowed := true }
def FnMarksUptoSaid : Prop := fnMarksUptoRow.holds Tryd.pinned (OpenSpec.upto fnMarksSpec)

end Rows
end Go.Proofs.YtmhekefjlepfpaaDoor

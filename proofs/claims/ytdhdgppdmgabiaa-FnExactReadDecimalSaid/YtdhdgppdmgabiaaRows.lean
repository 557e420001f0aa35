/-
  No cell of these rows narrows 'for every input' (looked for: loops, veiled, ifaces, maps, wideKeys, modest, calm, conditions, laid).
  DERIVED. THE GIVEN ROWS OF THIS SEAT. 12 by the template 'for every input the law returns true; each argument reads behind the call as it read before'; 0 by the template 'total and deterministic' (their statements: YtdhdgppdmgabiaaTotals.lean).
  GIVEN WITH THE SEED: the statements are not yours to turn. If you find one false, say at which input.
  Laid BY PROGRAM, IN A SANDBOX (cutbox-rows.mjs): the forced cells as the released guide's own fill.sh prints them over the translation 1c27ea6f24e12397… (all of the seat's roots in one cut). By AI agents, Wed Nov 11 2026. No macro, syntax, notation, axiom, sorry.
-/
import Derived.Test.YtdhdgppdmgabiaaChecked
import GoSem.Claim
import GoSem.ClaimJoined
import GoSem.ClaimMapViews
import Derived.JoinedTies
import Derived.KernelRfl
namespace Go.Proofs.Ytdhdgppdmgabiaa
/- THE CELL 'sum', in the pinned program and in every row, IS THE sha256 OF THE DUMP (.gsa) THAT YtdhdgppdmgabiaaProg.lean LOADS. Nothing in Lean hashes anything: it is a label: what it is worth is what the hold of that sum in a sandbox is worth. -/
noncomputable def Try.pinned : Pinned := { name := "ytdhdgppdmgabiaa", sum := "1c27ea6f24e1239716f36925fba6a7a414fba29ab64b6b232a70dd4c12b31018", checked := Try.checked }
namespace Rows
def none {H : Type} : Left H := { results := [], args := [] }

/-- 'laws.FnExactConstants': WHATEVER THE INPUT: true; the input reads as it did. -/
def fnExactConstantsSpec : ChangeSpec := { name := "fnExactConstants", fn := fun _ => fun
  | [] => { results := [.lit (.bool true)], args := [] }
  | _ => none }
def fnExactConstantsRow : OpenClaim := { program := "ytdhdgppdmgabiaa", sum := "1c27ea6f24e1239716f36925fba6a7a414fba29ab64b6b232a70dd4c12b31018", func := "loop.example/g00967/laws.FnExactConstants", spec := "fnExactConstants", apart := false }
def FnExactConstantsSaid : Prop := fnExactConstantsRow.holds Try.pinned (OpenSpec.ofChange fnExactConstantsSpec)

/-- ITS FALSE NEIGHBOUR: 'it returns false'. Refute it at one input. -/
def fnExactConstantsWrong : ChangeSpec := { name := "fnExactConstants", fn := fun _ => fun
  | [] => { results := [.lit (.bool false)], args := [] }
  | _ => none }
def FnExactConstantsWrongFalsely : Prop := fnExactConstantsRow.holds Try.pinned (OpenSpec.ofChange fnExactConstantsWrong)

/-- 'laws.FnExactKeyOk': WHATEVER THE INPUT: true; the input reads as it did. -/
def fnExactKeyOkSpec : ChangeSpec := { name := "fnExactKeyOk", fn := fun _ => fun
  | [d] => { results := [.lit (.bool true)], args := [d] }
  | _ => none }
def fnExactKeyOkRow : OpenClaim := { program := "ytdhdgppdmgabiaa", sum := "1c27ea6f24e1239716f36925fba6a7a414fba29ab64b6b232a70dd4c12b31018", func := "loop.example/g00967/laws.FnExactKeyOk", spec := "fnExactKeyOk", apart := false }
def FnExactKeyOkSaid : Prop := fnExactKeyOkRow.holds Try.pinned (OpenSpec.ofChange fnExactKeyOkSpec)

/-- ITS FALSE NEIGHBOUR: 'it returns false'. Refute it at one input. -/
def fnExactKeyOkWrong : ChangeSpec := { name := "fnExactKeyOk", fn := fun _ => fun
  | [d] => { results := [.lit (.bool false)], args := [d] }
  | _ => none }
def FnExactKeyOkWrongFalsely : Prop := fnExactKeyOkRow.holds Try.pinned (OpenSpec.ofChange fnExactKeyOkWrong)

/-- 'laws.FnExactBrought': WHATEVER THE INPUT: true; the input reads as it did. -/
def fnExactBroughtSpec : ChangeSpec := { name := "fnExactBrought", fn := fun _ => fun
  | [d1, d2, d3] => { results := [.lit (.bool true)], args := [d1, d2, d3] }
  | _ => none }
def fnExactBroughtRow : OpenClaim := { program := "ytdhdgppdmgabiaa", sum := "1c27ea6f24e1239716f36925fba6a7a414fba29ab64b6b232a70dd4c12b31018", func := "loop.example/g00967/laws.FnExactBrought", spec := "fnExactBrought", apart := false }
def FnExactBroughtSaid : Prop := fnExactBroughtRow.holds Try.pinned (OpenSpec.ofChange fnExactBroughtSpec)

/-- ITS FALSE NEIGHBOUR: 'it returns false'. Refute it at one input. -/
def fnExactBroughtWrong : ChangeSpec := { name := "fnExactBrought", fn := fun _ => fun
  | [d1, d2, d3] => { results := [.lit (.bool false)], args := [d1, d2, d3] }
  | _ => none }
def FnExactBroughtWrongFalsely : Prop := fnExactBroughtRow.holds Try.pinned (OpenSpec.ofChange fnExactBroughtWrong)

/-- 'laws.FnExactTextAt': WHATEVER THE INPUT: true; the input reads as it did. -/
def fnExactTextAtSpec : ChangeSpec := { name := "fnExactTextAt", fn := fun _ => fun
  | [d1, d2, d3] => { results := [.lit (.bool true)], args := [d1, d2, d3] }
  | _ => none }
def fnExactTextAtRow : OpenClaim := { program := "ytdhdgppdmgabiaa", sum := "1c27ea6f24e1239716f36925fba6a7a414fba29ab64b6b232a70dd4c12b31018", func := "loop.example/g00967/laws.FnExactTextAt", spec := "fnExactTextAt", apart := false }
def FnExactTextAtSaid : Prop := fnExactTextAtRow.holds Try.pinned (OpenSpec.ofChange fnExactTextAtSpec)

/-- ITS FALSE NEIGHBOUR: 'it returns false'. Refute it at one input. -/
def fnExactTextAtWrong : ChangeSpec := { name := "fnExactTextAt", fn := fun _ => fun
  | [d1, d2, d3] => { results := [.lit (.bool false)], args := [d1, d2, d3] }
  | _ => none }
def FnExactTextAtWrongFalsely : Prop := fnExactTextAtRow.holds Try.pinned (OpenSpec.ofChange fnExactTextAtWrong)

/-- 'laws.FnExactSameBytes': WHATEVER THE INPUT: true; the input reads as it did. -/
def fnExactSameBytesSpec : ChangeSpec := { name := "fnExactSameBytes", fn := fun _ => fun
  | [d1, d2] => { results := [.lit (.bool true)], args := [d1, d2] }
  | _ => none }
def fnExactSameBytesRow : OpenClaim := { program := "ytdhdgppdmgabiaa", sum := "1c27ea6f24e1239716f36925fba6a7a414fba29ab64b6b232a70dd4c12b31018", func := "loop.example/g00967/laws.FnExactSameBytes", spec := "fnExactSameBytes", apart := false }
def FnExactSameBytesSaid : Prop := fnExactSameBytesRow.holds Try.pinned (OpenSpec.ofChange fnExactSameBytesSpec)

/-- ITS FALSE NEIGHBOUR: 'it returns false'. Refute it at one input. -/
def fnExactSameBytesWrong : ChangeSpec := { name := "fnExactSameBytes", fn := fun _ => fun
  | [d1, d2] => { results := [.lit (.bool false)], args := [d1, d2] }
  | _ => none }
def FnExactSameBytesWrongFalsely : Prop := fnExactSameBytesRow.holds Try.pinned (OpenSpec.ofChange fnExactSameBytesWrong)

/-- 'laws.FnExactPadText': WHATEVER THE INPUT: true; the input reads as it did. -/
def fnExactPadTextSpec : ChangeSpec := { name := "fnExactPadText", fn := fun _ => fun
  | [d] => { results := [.lit (.bool true)], args := [d] }
  | _ => none }
def fnExactPadTextRow : OpenClaim := { program := "ytdhdgppdmgabiaa", sum := "1c27ea6f24e1239716f36925fba6a7a414fba29ab64b6b232a70dd4c12b31018", func := "loop.example/g00967/laws.FnExactPadText", spec := "fnExactPadText", apart := false }
def FnExactPadTextSaid : Prop := fnExactPadTextRow.holds Try.pinned (OpenSpec.ofChange fnExactPadTextSpec)

/-- ITS FALSE NEIGHBOUR: 'it returns false'. Refute it at one input. -/
def fnExactPadTextWrong : ChangeSpec := { name := "fnExactPadText", fn := fun _ => fun
  | [d] => { results := [.lit (.bool false)], args := [d] }
  | _ => none }
def FnExactPadTextWrongFalsely : Prop := fnExactPadTextRow.holds Try.pinned (OpenSpec.ofChange fnExactPadTextWrong)

/-- 'laws.FnExactHex': WHATEVER THE INPUT: true; the input reads as it did. -/
def fnExactHexSpec : ChangeSpec := { name := "fnExactHex", fn := fun _ => fun
  | [d] => { results := [.lit (.bool true)], args := [d] }
  | _ => none }
def fnExactHexRow : OpenClaim := { program := "ytdhdgppdmgabiaa", sum := "1c27ea6f24e1239716f36925fba6a7a414fba29ab64b6b232a70dd4c12b31018", func := "loop.example/g00967/laws.FnExactHex", spec := "fnExactHex", apart := false }
def FnExactHexSaid : Prop := fnExactHexRow.holds Try.pinned (OpenSpec.ofChange fnExactHexSpec)

/-- ITS FALSE NEIGHBOUR: 'it returns false'. Refute it at one input. -/
def fnExactHexWrong : ChangeSpec := { name := "fnExactHex", fn := fun _ => fun
  | [d] => { results := [.lit (.bool false)], args := [d] }
  | _ => none }
def FnExactHexWrongFalsely : Prop := fnExactHexRow.holds Try.pinned (OpenSpec.ofChange fnExactHexWrong)

/-- 'laws.FnExactNumText': WHATEVER THE INPUT: true; the input reads as it did. -/
def fnExactNumTextSpec : ChangeSpec := { name := "fnExactNumText", fn := fun _ => fun
  | [d1, d2] => { results := [.lit (.bool true)], args := [d1, d2] }
  | _ => none }
def fnExactNumTextRow : OpenClaim := { program := "ytdhdgppdmgabiaa", sum := "1c27ea6f24e1239716f36925fba6a7a414fba29ab64b6b232a70dd4c12b31018", func := "loop.example/g00967/laws.FnExactNumText", spec := "fnExactNumText", apart := false }
def FnExactNumTextSaid : Prop := fnExactNumTextRow.holds Try.pinned (OpenSpec.ofChange fnExactNumTextSpec)

/-- ITS FALSE NEIGHBOUR: 'it returns false'. Refute it at one input. -/
def fnExactNumTextWrong : ChangeSpec := { name := "fnExactNumText", fn := fun _ => fun
  | [d1, d2] => { results := [.lit (.bool false)], args := [d1, d2] }
  | _ => none }
def FnExactNumTextWrongFalsely : Prop := fnExactNumTextRow.holds Try.pinned (OpenSpec.ofChange fnExactNumTextWrong)

/-- 'laws.FnExactNumAt': WHATEVER THE INPUT: true; the input reads as it did. -/
def fnExactNumAtSpec : ChangeSpec := { name := "fnExactNumAt", fn := fun _ => fun
  | [d1, d2, d3] => { results := [.lit (.bool true)], args := [d1, d2, d3] }
  | _ => none }
def fnExactNumAtRow : OpenClaim := { program := "ytdhdgppdmgabiaa", sum := "1c27ea6f24e1239716f36925fba6a7a414fba29ab64b6b232a70dd4c12b31018", func := "loop.example/g00967/laws.FnExactNumAt", spec := "fnExactNumAt", apart := false }
def FnExactNumAtSaid : Prop := fnExactNumAtRow.holds Try.pinned (OpenSpec.ofChange fnExactNumAtSpec)

/-- ITS FALSE NEIGHBOUR: 'it returns false'. Refute it at one input. -/
def fnExactNumAtWrong : ChangeSpec := { name := "fnExactNumAt", fn := fun _ => fun
  | [d1, d2, d3] => { results := [.lit (.bool false)], args := [d1, d2, d3] }
  | _ => none }
def FnExactNumAtWrongFalsely : Prop := fnExactNumAtRow.holds Try.pinned (OpenSpec.ofChange fnExactNumAtWrong)

/-- 'laws.FnExactDecimal': WHATEVER THE INPUT: true; the input reads as it did. -/
def fnExactDecimalSpec : ChangeSpec := { name := "fnExactDecimal", fn := fun _ => fun
  | [d] => { results := [.lit (.bool true)], args := [d] }
  | _ => none }
def fnExactDecimalRow : OpenClaim := { program := "ytdhdgppdmgabiaa", sum := "1c27ea6f24e1239716f36925fba6a7a414fba29ab64b6b232a70dd4c12b31018", func := "loop.example/g00967/laws.FnExactDecimal", spec := "fnExactDecimal", apart := false }
def FnExactDecimalSaid : Prop := fnExactDecimalRow.holds Try.pinned (OpenSpec.ofChange fnExactDecimalSpec)

/-- ITS FALSE NEIGHBOUR: 'it returns false'. Refute it at one input. -/
def fnExactDecimalWrong : ChangeSpec := { name := "fnExactDecimal", fn := fun _ => fun
  | [d] => { results := [.lit (.bool false)], args := [d] }
  | _ => none }
def FnExactDecimalWrongFalsely : Prop := fnExactDecimalRow.holds Try.pinned (OpenSpec.ofChange fnExactDecimalWrong)

/-- 'laws.FnExactUnhex': WHATEVER THE INPUT: true; the input reads as it did. -/
def fnExactUnhexSpec : ChangeSpec := { name := "fnExactUnhex", fn := fun _ => fun
  | [d] => { results := [.lit (.bool true)], args := [d] }
  | _ => none }
def fnExactUnhexRow : OpenClaim := { program := "ytdhdgppdmgabiaa", sum := "1c27ea6f24e1239716f36925fba6a7a414fba29ab64b6b232a70dd4c12b31018", func := "loop.example/g00967/laws.FnExactUnhex", spec := "fnExactUnhex", apart := false }
def FnExactUnhexSaid : Prop := fnExactUnhexRow.holds Try.pinned (OpenSpec.ofChange fnExactUnhexSpec)

/-- ITS FALSE NEIGHBOUR: 'it returns false'. Refute it at one input. -/
def fnExactUnhexWrong : ChangeSpec := { name := "fnExactUnhex", fn := fun _ => fun
  | [d] => { results := [.lit (.bool false)], args := [d] }
  | _ => none }
def FnExactUnhexWrongFalsely : Prop := fnExactUnhexRow.holds Try.pinned (OpenSpec.ofChange fnExactUnhexWrong)

/-- 'laws.FnExactReadDecimal': WHATEVER THE INPUT: true; the input reads as it did. -/
def fnExactReadDecimalSpec : ChangeSpec := { name := "fnExactReadDecimal", fn := fun _ => fun
  | [d] => { results := [.lit (.bool true)], args := [d] }
  | _ => none }
def fnExactReadDecimalRow : OpenClaim := { program := "ytdhdgppdmgabiaa", sum := "1c27ea6f24e1239716f36925fba6a7a414fba29ab64b6b232a70dd4c12b31018", func := "loop.example/g00967/laws.FnExactReadDecimal", spec := "fnExactReadDecimal", apart := false }
def FnExactReadDecimalSaid : Prop := fnExactReadDecimalRow.holds Try.pinned (OpenSpec.ofChange fnExactReadDecimalSpec)

/-- ITS FALSE NEIGHBOUR: 'it returns false'. Refute it at one input. -/
def fnExactReadDecimalWrong : ChangeSpec := { name := "fnExactReadDecimal", fn := fun _ => fun
  | [d] => { results := [.lit (.bool false)], args := [d] }
  | _ => none }
def FnExactReadDecimalWrongFalsely : Prop := fnExactReadDecimalRow.holds Try.pinned (OpenSpec.ofChange fnExactReadDecimalWrong)

/- THE SECOND FORM. 'bulk': how many values and letters a reading holds, each counted each time it is reached (what is shared counts as often as it is met; a slice's spare places count too). A statement '..UptoSaid' is the law's where the arguments, and the package variables that the reading takes, are together of bulk at most 1048576: NARROWER than '..Said'. Prove '..Said' where nothing that the law and all that it calls make is longer than what came in: it says more and counts as full. Else prove '..UptoSaid'. A law counts once. -/
mutual
def uptoBulk {H : Type} : DataW H → Nat
  | .lit (.string bytes) => bytes.length + 1
  | .lit _ => 1
  | .nil => 1
  | .ptr d => uptoBulk d + 1
  | .slice elems spare => uptoBulkAll elems + uptoBulkAll spare + 1
  | .agg parts => uptoBulkAll parts + 1
  | .iface _ d => uptoBulk d + 1
  | .map entries => uptoBulkEntries entries + 1
  | .held _ => 1
def uptoBulkAll {H : Type} : List (DataW H) → Nat
  | [] => 0
  | d :: r => uptoBulk d + uptoBulkAll r
def uptoBulkEntries {H : Type} : List (Lit × DataW H) → Nat
  | [] => 0
  | x :: r => uptoBulkEntry x + uptoBulkEntries r
def uptoBulkEntry {H : Type} : Lit × DataW H → Nat
  | (.string bytes, d) => bytes.length + uptoBulk d + 1
  | (_, d) => uptoBulk d + 1
 end
def uptoSmall : (H : Type) → List (DataW H) → Bool := fun _ ds => decide (uptoBulkAll ds ≤ 1048576)
def OpenSpec.upto (s : _root_.Go.ChangeSpec) : _root_.Go.OpenSpec := { _root_.Go.OpenSpec.ofChange s with cond := some uptoSmall }

/-- 'laws.FnExactConstants', WHERE WHAT IT READS IS OF BULK AT MOST 1048576: true; the input reads as it did. -/
def fnExactConstantsUptoRow : OpenClaim := { program := "ytdhdgppdmgabiaa", sum := "1c27ea6f24e1239716f36925fba6a7a414fba29ab64b6b232a70dd4c12b31018", func := "loop.example/g00967/laws.FnExactConstants", spec := "fnExactConstants", apart := false, narrowed := true }
def FnExactConstantsUptoSaid : Prop := fnExactConstantsUptoRow.holds Try.pinned (OpenSpec.upto fnExactConstantsSpec)

/-- 'laws.FnExactKeyOk', WHERE WHAT IT READS IS OF BULK AT MOST 1048576: true; the input reads as it did. -/
def fnExactKeyOkUptoRow : OpenClaim := { program := "ytdhdgppdmgabiaa", sum := "1c27ea6f24e1239716f36925fba6a7a414fba29ab64b6b232a70dd4c12b31018", func := "loop.example/g00967/laws.FnExactKeyOk", spec := "fnExactKeyOk", apart := false, narrowed := true }
def FnExactKeyOkUptoSaid : Prop := fnExactKeyOkUptoRow.holds Try.pinned (OpenSpec.upto fnExactKeyOkSpec)

/-- 'laws.FnExactBrought', WHERE WHAT IT READS IS OF BULK AT MOST 1048576: true; the input reads as it did. -/
def fnExactBroughtUptoRow : OpenClaim := { program := "ytdhdgppdmgabiaa", sum := "1c27ea6f24e1239716f36925fba6a7a414fba29ab64b6b232a70dd4c12b31018", func := "loop.example/g00967/laws.FnExactBrought", spec := "fnExactBrought", apart := false, narrowed := true }
def FnExactBroughtUptoSaid : Prop := fnExactBroughtUptoRow.holds Try.pinned (OpenSpec.upto fnExactBroughtSpec)

/-- 'laws.FnExactTextAt', WHERE WHAT IT READS IS OF BULK AT MOST 1048576: true; the input reads as it did. -/
def fnExactTextAtUptoRow : OpenClaim := { program := "ytdhdgppdmgabiaa", sum := "1c27ea6f24e1239716f36925fba6a7a414fba29ab64b6b232a70dd4c12b31018", func := "loop.example/g00967/laws.FnExactTextAt", spec := "fnExactTextAt", apart := false, narrowed := true }
def FnExactTextAtUptoSaid : Prop := fnExactTextAtUptoRow.holds Try.pinned (OpenSpec.upto fnExactTextAtSpec)

/-- 'laws.FnExactSameBytes', WHERE WHAT IT READS IS OF BULK AT MOST 1048576: true; the input reads as it did. -/
def fnExactSameBytesUptoRow : OpenClaim := { program := "ytdhdgppdmgabiaa", sum := "1c27ea6f24e1239716f36925fba6a7a414fba29ab64b6b232a70dd4c12b31018", func := "loop.example/g00967/laws.FnExactSameBytes", spec := "fnExactSameBytes", apart := false, narrowed := true }
def FnExactSameBytesUptoSaid : Prop := fnExactSameBytesUptoRow.holds Try.pinned (OpenSpec.upto fnExactSameBytesSpec)

/-- 'laws.FnExactPadText', WHERE WHAT IT READS IS OF BULK AT MOST 1048576: true; the input reads as it did. -/
def fnExactPadTextUptoRow : OpenClaim := { program := "ytdhdgppdmgabiaa", sum := "1c27ea6f24e1239716f36925fba6a7a414fba29ab64b6b232a70dd4c12b31018", func := "loop.example/g00967/laws.FnExactPadText", spec := "fnExactPadText", apart := false, narrowed := true }
def FnExactPadTextUptoSaid : Prop := fnExactPadTextUptoRow.holds Try.pinned (OpenSpec.upto fnExactPadTextSpec)

/-- 'laws.FnExactHex', WHERE WHAT IT READS IS OF BULK AT MOST 1048576: true; the input reads as it did. -/
def fnExactHexUptoRow : OpenClaim := { program := "ytdhdgppdmgabiaa", sum := "1c27ea6f24e1239716f36925fba6a7a414fba29ab64b6b232a70dd4c12b31018", func := "loop.example/g00967/laws.FnExactHex", spec := "fnExactHex", apart := false, narrowed := true }
def FnExactHexUptoSaid : Prop := fnExactHexUptoRow.holds Try.pinned (OpenSpec.upto fnExactHexSpec)

/-- 'laws.FnExactNumText', WHERE WHAT IT READS IS OF BULK AT MOST 1048576: true; the input reads as it did. -/
def fnExactNumTextUptoRow : OpenClaim := { program := "ytdhdgppdmgabiaa", sum := "1c27ea6f24e1239716f36925fba6a7a414fba29ab64b6b232a70dd4c12b31018", func := "loop.example/g00967/laws.FnExactNumText", spec := "fnExactNumText", apart := false, narrowed := true }
def FnExactNumTextUptoSaid : Prop := fnExactNumTextUptoRow.holds Try.pinned (OpenSpec.upto fnExactNumTextSpec)

/-- 'laws.FnExactNumAt', WHERE WHAT IT READS IS OF BULK AT MOST 1048576: true; the input reads as it did. -/
def fnExactNumAtUptoRow : OpenClaim := { program := "ytdhdgppdmgabiaa", sum := "1c27ea6f24e1239716f36925fba6a7a414fba29ab64b6b232a70dd4c12b31018", func := "loop.example/g00967/laws.FnExactNumAt", spec := "fnExactNumAt", apart := false, narrowed := true }
def FnExactNumAtUptoSaid : Prop := fnExactNumAtUptoRow.holds Try.pinned (OpenSpec.upto fnExactNumAtSpec)

/-- 'laws.FnExactDecimal', WHERE WHAT IT READS IS OF BULK AT MOST 1048576: true; the input reads as it did. -/
def fnExactDecimalUptoRow : OpenClaim := { program := "ytdhdgppdmgabiaa", sum := "1c27ea6f24e1239716f36925fba6a7a414fba29ab64b6b232a70dd4c12b31018", func := "loop.example/g00967/laws.FnExactDecimal", spec := "fnExactDecimal", apart := false, narrowed := true }
def FnExactDecimalUptoSaid : Prop := fnExactDecimalUptoRow.holds Try.pinned (OpenSpec.upto fnExactDecimalSpec)

/-- 'laws.FnExactUnhex', WHERE WHAT IT READS IS OF BULK AT MOST 1048576: true; the input reads as it did. -/
def fnExactUnhexUptoRow : OpenClaim := { program := "ytdhdgppdmgabiaa", sum := "1c27ea6f24e1239716f36925fba6a7a414fba29ab64b6b232a70dd4c12b31018", func := "loop.example/g00967/laws.FnExactUnhex", spec := "fnExactUnhex", apart := false, narrowed := true }
def FnExactUnhexUptoSaid : Prop := fnExactUnhexUptoRow.holds Try.pinned (OpenSpec.upto fnExactUnhexSpec)

/-- 'laws.FnExactReadDecimal', WHERE WHAT IT READS IS OF BULK AT MOST 1048576: true; the input reads as it did. -/
def fnExactReadDecimalUptoRow : OpenClaim := { program := "ytdhdgppdmgabiaa", sum := "1c27ea6f24e1239716f36925fba6a7a414fba29ab64b6b232a70dd4c12b31018", func := "loop.example/g00967/laws.FnExactReadDecimal", spec := "fnExactReadDecimal", apart := false, narrowed := true }
def FnExactReadDecimalUptoSaid : Prop := fnExactReadDecimalUptoRow.holds Try.pinned (OpenSpec.upto fnExactReadDecimalSpec)

end Rows
end Go.Proofs.Ytdhdgppdmgabiaa

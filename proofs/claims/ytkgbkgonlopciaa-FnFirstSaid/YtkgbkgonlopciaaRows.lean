/-
  No cell of these rows narrows 'for every input' (looked for: loops, veiled, ifaces, maps, wideKeys, modest, calm, conditions, laid).
  DERIVED. THE GIVEN ROWS OF THIS SEAT. 13 by the template 'for every input the law returns true; each argument reads behind the call as it read before'; 0 by the template 'total and deterministic' (their statements: YtkgbkgonlopciaaTotals.lean).
  GIVEN WITH THE SEED: the statements are not yours to turn. If you find one false, say at which input.
  Laid BY PROGRAM, IN A SANDBOX (cutbox-rows.mjs): the forced cells as the released guide's own fill.sh prints them over the translation 9f97edc93a4a023b… (all of the seat's roots in one cut). By AI agents, Wed Nov 11 2026. No macro, syntax, notation, axiom, sorry.
-/
import Derived.Test.YtkgbkgonlopciaaChecked
import GoSem.Claim
import GoSem.ClaimJoined
import GoSem.ClaimMapViews
import Derived.JoinedTies
import Derived.KernelRfl
namespace Go.Proofs.Ytkgbkgonlopciaa
/- THE CELL 'sum', in the pinned program and in every row, IS THE sha256 OF THE DUMP (.gsa) THAT YtkgbkgonlopciaaProg.lean LOADS. Nothing in Lean hashes anything: it is a label: what it is worth is what the hold of that sum in a sandbox is worth. -/
noncomputable def Try.pinned : Pinned := { name := "ytkgbkgonlopciaa", sum := "9f97edc93a4a023b707792505019c929fc377cead1ba32a02b89f424dd56aa8d", checked := Try.checked }
namespace Rows
def none {H : Type} : Left H := { results := [], args := [] }

/-- 'laws.FnExactSameOpt': WHATEVER THE INPUT: true; the input reads as it did. -/
def fnExactSameOptSpec : ChangeSpec := { name := "fnExactSameOpt", fn := fun _ => fun
  | [d1, d2] => { results := [.lit (.bool true)], args := [d1, d2] }
  | _ => none }
def fnExactSameOptRow : OpenClaim := { program := "ytkgbkgonlopciaa", sum := "9f97edc93a4a023b707792505019c929fc377cead1ba32a02b89f424dd56aa8d", func := "loop.example/g00967/laws.FnExactSameOpt", spec := "fnExactSameOpt", apart := false }
def FnExactSameOptSaid : Prop := fnExactSameOptRow.holds Try.pinned (OpenSpec.ofChange fnExactSameOptSpec)

/-- ITS FALSE NEIGHBOUR: 'it returns false'. Refute it at one input. -/
def fnExactSameOptWrong : ChangeSpec := { name := "fnExactSameOpt", fn := fun _ => fun
  | [d1, d2] => { results := [.lit (.bool false)], args := [d1, d2] }
  | _ => none }
def FnExactSameOptWrongFalsely : Prop := fnExactSameOptRow.holds Try.pinned (OpenSpec.ofChange fnExactSameOptWrong)

/-- 'laws.FnExactSameSeg': WHATEVER THE INPUT: true; the input reads as it did. -/
def fnExactSameSegSpec : ChangeSpec := { name := "fnExactSameSeg", fn := fun _ => fun
  | [d1, d2] => { results := [.lit (.bool true)], args := [d1, d2] }
  | _ => none }
def fnExactSameSegRow : OpenClaim := { program := "ytkgbkgonlopciaa", sum := "9f97edc93a4a023b707792505019c929fc377cead1ba32a02b89f424dd56aa8d", func := "loop.example/g00967/laws.FnExactSameSeg", spec := "fnExactSameSeg", apart := false }
def FnExactSameSegSaid : Prop := fnExactSameSegRow.holds Try.pinned (OpenSpec.ofChange fnExactSameSegSpec)

/-- ITS FALSE NEIGHBOUR: 'it returns false'. Refute it at one input. -/
def fnExactSameSegWrong : ChangeSpec := { name := "fnExactSameSeg", fn := fun _ => fun
  | [d1, d2] => { results := [.lit (.bool false)], args := [d1, d2] }
  | _ => none }
def FnExactSameSegWrongFalsely : Prop := fnExactSameSegRow.holds Try.pinned (OpenSpec.ofChange fnExactSameSegWrong)

/-- 'laws.FnFirst': WHATEVER THE INPUT: true; the input reads as it did. -/
def fnFirstSpec : ChangeSpec := { name := "fnFirst", fn := fun _ => fun
  | [d] => { results := [.lit (.bool true)], args := [d] }
  | _ => none }
def fnFirstRow : OpenClaim := { program := "ytkgbkgonlopciaa", sum := "9f97edc93a4a023b707792505019c929fc377cead1ba32a02b89f424dd56aa8d", func := "loop.example/g00967/laws.FnFirst", spec := "fnFirst", apart := false }
def FnFirstSaid : Prop := fnFirstRow.holds Try.pinned (OpenSpec.ofChange fnFirstSpec)

/-- ITS FALSE NEIGHBOUR: 'it returns false'. Refute it at one input. -/
def fnFirstWrong : ChangeSpec := { name := "fnFirst", fn := fun _ => fun
  | [d] => { results := [.lit (.bool false)], args := [d] }
  | _ => none }
def FnFirstWrongFalsely : Prop := fnFirstRow.holds Try.pinned (OpenSpec.ofChange fnFirstWrong)

/-- 'laws.FnExactFirstOpt': WHATEVER THE INPUT: true; the input reads as it did. -/
def fnExactFirstOptSpec : ChangeSpec := { name := "fnExactFirstOpt", fn := fun _ => fun
  | [d1, d2] => { results := [.lit (.bool true)], args := [d1, d2] }
  | _ => none }
def fnExactFirstOptRow : OpenClaim := { program := "ytkgbkgonlopciaa", sum := "9f97edc93a4a023b707792505019c929fc377cead1ba32a02b89f424dd56aa8d", func := "loop.example/g00967/laws.FnExactFirstOpt", spec := "fnExactFirstOpt", apart := false }
def FnExactFirstOptSaid : Prop := fnExactFirstOptRow.holds Try.pinned (OpenSpec.ofChange fnExactFirstOptSpec)

/-- ITS FALSE NEIGHBOUR: 'it returns false'. Refute it at one input. -/
def fnExactFirstOptWrong : ChangeSpec := { name := "fnExactFirstOpt", fn := fun _ => fun
  | [d1, d2] => { results := [.lit (.bool false)], args := [d1, d2] }
  | _ => none }
def FnExactFirstOptWrongFalsely : Prop := fnExactFirstOptRow.holds Try.pinned (OpenSpec.ofChange fnExactFirstOptWrong)

/-- 'laws.FnExactOptOk': WHATEVER THE INPUT: true; the input reads as it did. -/
def fnExactOptOkSpec : ChangeSpec := { name := "fnExactOptOk", fn := fun _ => fun
  | [d] => { results := [.lit (.bool true)], args := [d] }
  | _ => none }
def fnExactOptOkRow : OpenClaim := { program := "ytkgbkgonlopciaa", sum := "9f97edc93a4a023b707792505019c929fc377cead1ba32a02b89f424dd56aa8d", func := "loop.example/g00967/laws.FnExactOptOk", spec := "fnExactOptOk", apart := false }
def FnExactOptOkSaid : Prop := fnExactOptOkRow.holds Try.pinned (OpenSpec.ofChange fnExactOptOkSpec)

/-- ITS FALSE NEIGHBOUR: 'it returns false'. Refute it at one input. -/
def fnExactOptOkWrong : ChangeSpec := { name := "fnExactOptOk", fn := fun _ => fun
  | [d] => { results := [.lit (.bool false)], args := [d] }
  | _ => none }
def FnExactOptOkWrongFalsely : Prop := fnExactOptOkRow.holds Try.pinned (OpenSpec.ofChange fnExactOptOkWrong)

/-- 'laws.FnExactOptText': WHATEVER THE INPUT: true; the input reads as it did. -/
def fnExactOptTextSpec : ChangeSpec := { name := "fnExactOptText", fn := fun _ => fun
  | [d] => { results := [.lit (.bool true)], args := [d] }
  | _ => none }
def fnExactOptTextRow : OpenClaim := { program := "ytkgbkgonlopciaa", sum := "9f97edc93a4a023b707792505019c929fc377cead1ba32a02b89f424dd56aa8d", func := "loop.example/g00967/laws.FnExactOptText", spec := "fnExactOptText", apart := false }
def FnExactOptTextSaid : Prop := fnExactOptTextRow.holds Try.pinned (OpenSpec.ofChange fnExactOptTextSpec)

/-- ITS FALSE NEIGHBOUR: 'it returns false'. Refute it at one input. -/
def fnExactOptTextWrong : ChangeSpec := { name := "fnExactOptText", fn := fun _ => fun
  | [d] => { results := [.lit (.bool false)], args := [d] }
  | _ => none }
def FnExactOptTextWrongFalsely : Prop := fnExactOptTextRow.holds Try.pinned (OpenSpec.ofChange fnExactOptTextWrong)

/-- 'laws.FnExactOptSize': WHATEVER THE INPUT: true; the input reads as it did. -/
def fnExactOptSizeSpec : ChangeSpec := { name := "fnExactOptSize", fn := fun _ => fun
  | [d] => { results := [.lit (.bool true)], args := [d] }
  | _ => none }
def fnExactOptSizeRow : OpenClaim := { program := "ytkgbkgonlopciaa", sum := "9f97edc93a4a023b707792505019c929fc377cead1ba32a02b89f424dd56aa8d", func := "loop.example/g00967/laws.FnExactOptSize", spec := "fnExactOptSize", apart := false }
def FnExactOptSizeSaid : Prop := fnExactOptSizeRow.holds Try.pinned (OpenSpec.ofChange fnExactOptSizeSpec)

/-- ITS FALSE NEIGHBOUR: 'it returns false'. Refute it at one input. -/
def fnExactOptSizeWrong : ChangeSpec := { name := "fnExactOptSize", fn := fun _ => fun
  | [d] => { results := [.lit (.bool false)], args := [d] }
  | _ => none }
def FnExactOptSizeWrongFalsely : Prop := fnExactOptSizeRow.holds Try.pinned (OpenSpec.ofChange fnExactOptSizeWrong)

/-- 'laws.FnExactSegOk': WHATEVER THE INPUT: true; the input reads as it did. -/
def fnExactSegOkSpec : ChangeSpec := { name := "fnExactSegOk", fn := fun _ => fun
  | [d] => { results := [.lit (.bool true)], args := [d] }
  | _ => none }
def fnExactSegOkRow : OpenClaim := { program := "ytkgbkgonlopciaa", sum := "9f97edc93a4a023b707792505019c929fc377cead1ba32a02b89f424dd56aa8d", func := "loop.example/g00967/laws.FnExactSegOk", spec := "fnExactSegOk", apart := false }
def FnExactSegOkSaid : Prop := fnExactSegOkRow.holds Try.pinned (OpenSpec.ofChange fnExactSegOkSpec)

/-- ITS FALSE NEIGHBOUR: 'it returns false'. Refute it at one input. -/
def fnExactSegOkWrong : ChangeSpec := { name := "fnExactSegOk", fn := fun _ => fun
  | [d] => { results := [.lit (.bool false)], args := [d] }
  | _ => none }
def FnExactSegOkWrongFalsely : Prop := fnExactSegOkRow.holds Try.pinned (OpenSpec.ofChange fnExactSegOkWrong)

/-- 'laws.FnOptions': WHATEVER THE INPUT: true; the input reads as it did. -/
def fnOptionsSpec : ChangeSpec := { name := "fnOptions", fn := fun _ => fun
  | [d] => { results := [.lit (.bool true)], args := [d] }
  | _ => none }
def fnOptionsRow : OpenClaim := { program := "ytkgbkgonlopciaa", sum := "9f97edc93a4a023b707792505019c929fc377cead1ba32a02b89f424dd56aa8d", func := "loop.example/g00967/laws.FnOptions", spec := "fnOptions", apart := false }
def FnOptionsSaid : Prop := fnOptionsRow.holds Try.pinned (OpenSpec.ofChange fnOptionsSpec)

/-- ITS FALSE NEIGHBOUR: 'it returns false'. Refute it at one input. -/
def fnOptionsWrong : ChangeSpec := { name := "fnOptions", fn := fun _ => fun
  | [d] => { results := [.lit (.bool false)], args := [d] }
  | _ => none }
def FnOptionsWrongFalsely : Prop := fnOptionsRow.holds Try.pinned (OpenSpec.ofChange fnOptionsWrong)

/-- 'laws.FnExactReadOpt': WHATEVER THE INPUT: true; the input reads as it did. -/
def fnExactReadOptSpec : ChangeSpec := { name := "fnExactReadOpt", fn := fun _ => fun
  | [d1, d2] => { results := [.lit (.bool true)], args := [d1, d2] }
  | _ => none }
def fnExactReadOptRow : OpenClaim := { program := "ytkgbkgonlopciaa", sum := "9f97edc93a4a023b707792505019c929fc377cead1ba32a02b89f424dd56aa8d", func := "loop.example/g00967/laws.FnExactReadOpt", spec := "fnExactReadOpt", apart := false }
def FnExactReadOptSaid : Prop := fnExactReadOptRow.holds Try.pinned (OpenSpec.ofChange fnExactReadOptSpec)

/-- ITS FALSE NEIGHBOUR: 'it returns false'. Refute it at one input. -/
def fnExactReadOptWrong : ChangeSpec := { name := "fnExactReadOpt", fn := fun _ => fun
  | [d1, d2] => { results := [.lit (.bool false)], args := [d1, d2] }
  | _ => none }
def FnExactReadOptWrongFalsely : Prop := fnExactReadOptRow.holds Try.pinned (OpenSpec.ofChange fnExactReadOptWrong)

/-- 'laws.FnExactSegText': WHATEVER THE INPUT: true; the input reads as it did. -/
def fnExactSegTextSpec : ChangeSpec := { name := "fnExactSegText", fn := fun _ => fun
  | [d] => { results := [.lit (.bool true)], args := [d] }
  | _ => none }
def fnExactSegTextRow : OpenClaim := { program := "ytkgbkgonlopciaa", sum := "9f97edc93a4a023b707792505019c929fc377cead1ba32a02b89f424dd56aa8d", func := "loop.example/g00967/laws.FnExactSegText", spec := "fnExactSegText", apart := false }
def FnExactSegTextSaid : Prop := fnExactSegTextRow.holds Try.pinned (OpenSpec.ofChange fnExactSegTextSpec)

/-- ITS FALSE NEIGHBOUR: 'it returns false'. Refute it at one input. -/
def fnExactSegTextWrong : ChangeSpec := { name := "fnExactSegText", fn := fun _ => fun
  | [d] => { results := [.lit (.bool false)], args := [d] }
  | _ => none }
def FnExactSegTextWrongFalsely : Prop := fnExactSegTextRow.holds Try.pinned (OpenSpec.ofChange fnExactSegTextWrong)

/-- 'laws.FnExactReadSeg': WHATEVER THE INPUT: true; the input reads as it did. -/
def fnExactReadSegSpec : ChangeSpec := { name := "fnExactReadSeg", fn := fun _ => fun
  | [d] => { results := [.lit (.bool true)], args := [d] }
  | _ => none }
def fnExactReadSegRow : OpenClaim := { program := "ytkgbkgonlopciaa", sum := "9f97edc93a4a023b707792505019c929fc377cead1ba32a02b89f424dd56aa8d", func := "loop.example/g00967/laws.FnExactReadSeg", spec := "fnExactReadSeg", apart := false }
def FnExactReadSegSaid : Prop := fnExactReadSegRow.holds Try.pinned (OpenSpec.ofChange fnExactReadSegSpec)

/-- ITS FALSE NEIGHBOUR: 'it returns false'. Refute it at one input. -/
def fnExactReadSegWrong : ChangeSpec := { name := "fnExactReadSeg", fn := fun _ => fun
  | [d] => { results := [.lit (.bool false)], args := [d] }
  | _ => none }
def FnExactReadSegWrongFalsely : Prop := fnExactReadSegRow.holds Try.pinned (OpenSpec.ofChange fnExactReadSegWrong)

/-- 'laws.FnSegs': WHATEVER THE INPUT: true; the input reads as it did. -/
def fnSegsSpec : ChangeSpec := { name := "fnSegs", fn := fun _ => fun
  | [d] => { results := [.lit (.bool true)], args := [d] }
  | _ => none }
def fnSegsRow : OpenClaim := { program := "ytkgbkgonlopciaa", sum := "9f97edc93a4a023b707792505019c929fc377cead1ba32a02b89f424dd56aa8d", func := "loop.example/g00967/laws.FnSegs", spec := "fnSegs", apart := false }
def FnSegsSaid : Prop := fnSegsRow.holds Try.pinned (OpenSpec.ofChange fnSegsSpec)

/-- ITS FALSE NEIGHBOUR: 'it returns false'. Refute it at one input. -/
def fnSegsWrong : ChangeSpec := { name := "fnSegs", fn := fun _ => fun
  | [d] => { results := [.lit (.bool false)], args := [d] }
  | _ => none }
def FnSegsWrongFalsely : Prop := fnSegsRow.holds Try.pinned (OpenSpec.ofChange fnSegsWrong)

/- THE SECOND FORM. 'bulk': how many values and letters a reading holds, each counted each time it is reached (what is shared counts as often as it is met; a slice's spare places count too). A statement '..UptoSaid' is the law's where the arguments, and the package variables that the reading takes, are together of bulk at most 1048576: NARROWER than '..Said'. Prove '..Said' where nothing that the law and all that it calls make is longer than what came in: it says more and counts as full. Else prove '..UptoSaid'. A law counts once. -/
mutual
def uptoBulk {H : Type} : DataW H → Nat
  | .lit (.string bytes) => bytes.length + 1
  | .lit _ => 1
  | .nil => 1
  | .ptr d => uptoBulk d + 1
  | .slice elems spare => uptoBulkAll elems + uptoBulkAll spare + 1
  | .agg parts => uptoBulkAll parts + 1
  | .iface _ d => uptoBulk d + 1
  | .map entries => uptoBulkEntries entries + 1
  | .held _ => 1
def uptoBulkAll {H : Type} : List (DataW H) → Nat
  | [] => 0
  | d :: r => uptoBulk d + uptoBulkAll r
def uptoBulkEntries {H : Type} : List (Lit × DataW H) → Nat
  | [] => 0
  | x :: r => uptoBulkEntry x + uptoBulkEntries r
def uptoBulkEntry {H : Type} : Lit × DataW H → Nat
  | (.string bytes, d) => bytes.length + uptoBulk d + 1
  | (_, d) => uptoBulk d + 1
 end
def uptoSmall : (H : Type) → List (DataW H) → Bool := fun _ ds => decide (uptoBulkAll ds ≤ 1048576)
def OpenSpec.upto (s : _root_.Go.ChangeSpec) : _root_.Go.OpenSpec := { _root_.Go.OpenSpec.ofChange s with cond := some uptoSmall }

/-- 'laws.FnExactSameOpt', WHERE WHAT IT READS IS OF BULK AT MOST 1048576: true; the input reads as it did. -/
def fnExactSameOptUptoRow : OpenClaim := { program := "ytkgbkgonlopciaa", sum := "9f97edc93a4a023b707792505019c929fc377cead1ba32a02b89f424dd56aa8d", func := "loop.example/g00967/laws.FnExactSameOpt", spec := "fnExactSameOpt", apart := false, narrowed := true }
def FnExactSameOptUptoSaid : Prop := fnExactSameOptUptoRow.holds Try.pinned (OpenSpec.upto fnExactSameOptSpec)

/-- 'laws.FnExactSameSeg', WHERE WHAT IT READS IS OF BULK AT MOST 1048576: true; the input reads as it did. -/
def fnExactSameSegUptoRow : OpenClaim := { program := "ytkgbkgonlopciaa", sum := "9f97edc93a4a023b707792505019c929fc377cead1ba32a02b89f424dd56aa8d", func := "loop.example/g00967/laws.FnExactSameSeg", spec := "fnExactSameSeg", apart := false, narrowed := true }
def FnExactSameSegUptoSaid : Prop := fnExactSameSegUptoRow.holds Try.pinned (OpenSpec.upto fnExactSameSegSpec)

/-- 'laws.FnFirst', WHERE WHAT IT READS IS OF BULK AT MOST 1048576: true; the input reads as it did. -/
def fnFirstUptoRow : OpenClaim := { program := "ytkgbkgonlopciaa", sum := "9f97edc93a4a023b707792505019c929fc377cead1ba32a02b89f424dd56aa8d", func := "loop.example/g00967/laws.FnFirst", spec := "fnFirst", apart := false, narrowed := true }
def FnFirstUptoSaid : Prop := fnFirstUptoRow.holds Try.pinned (OpenSpec.upto fnFirstSpec)

/-- 'laws.FnExactFirstOpt', WHERE WHAT IT READS IS OF BULK AT MOST 1048576: true; the input reads as it did. -/
def fnExactFirstOptUptoRow : OpenClaim := { program := "ytkgbkgonlopciaa", sum := "9f97edc93a4a023b707792505019c929fc377cead1ba32a02b89f424dd56aa8d", func := "loop.example/g00967/laws.FnExactFirstOpt", spec := "fnExactFirstOpt", apart := false, narrowed := true }
def FnExactFirstOptUptoSaid : Prop := fnExactFirstOptUptoRow.holds Try.pinned (OpenSpec.upto fnExactFirstOptSpec)

/-- 'laws.FnExactOptOk', WHERE WHAT IT READS IS OF BULK AT MOST 1048576: true; the input reads as it did. -/
def fnExactOptOkUptoRow : OpenClaim := { program := "ytkgbkgonlopciaa", sum := "9f97edc93a4a023b707792505019c929fc377cead1ba32a02b89f424dd56aa8d", func := "loop.example/g00967/laws.FnExactOptOk", spec := "fnExactOptOk", apart := false, narrowed := true }
def FnExactOptOkUptoSaid : Prop := fnExactOptOkUptoRow.holds Try.pinned (OpenSpec.upto fnExactOptOkSpec)

/-- 'laws.FnExactOptText', WHERE WHAT IT READS IS OF BULK AT MOST 1048576: true; the input reads as it did. -/
def fnExactOptTextUptoRow : OpenClaim := { program := "ytkgbkgonlopciaa", sum := "9f97edc93a4a023b707792505019c929fc377cead1ba32a02b89f424dd56aa8d", func := "loop.example/g00967/laws.FnExactOptText", spec := "fnExactOptText", apart := false, narrowed := true }
def FnExactOptTextUptoSaid : Prop := fnExactOptTextUptoRow.holds Try.pinned (OpenSpec.upto fnExactOptTextSpec)

/-- 'laws.FnExactOptSize', WHERE WHAT IT READS IS OF BULK AT MOST 1048576: true; the input reads as it did. -/
def fnExactOptSizeUptoRow : OpenClaim := { program := "ytkgbkgonlopciaa", sum := "9f97edc93a4a023b707792505019c929fc377cead1ba32a02b89f424dd56aa8d", func := "loop.example/g00967/laws.FnExactOptSize", spec := "fnExactOptSize", apart := false, narrowed := true }
def FnExactOptSizeUptoSaid : Prop := fnExactOptSizeUptoRow.holds Try.pinned (OpenSpec.upto fnExactOptSizeSpec)

/-- 'laws.FnExactSegOk', WHERE WHAT IT READS IS OF BULK AT MOST 1048576: true; the input reads as it did. -/
def fnExactSegOkUptoRow : OpenClaim := { program := "ytkgbkgonlopciaa", sum := "9f97edc93a4a023b707792505019c929fc377cead1ba32a02b89f424dd56aa8d", func := "loop.example/g00967/laws.FnExactSegOk", spec := "fnExactSegOk", apart := false, narrowed := true }
def FnExactSegOkUptoSaid : Prop := fnExactSegOkUptoRow.holds Try.pinned (OpenSpec.upto fnExactSegOkSpec)

/-- 'laws.FnOptions', WHERE WHAT IT READS IS OF BULK AT MOST 1048576: true; the input reads as it did. -/
def fnOptionsUptoRow : OpenClaim := { program := "ytkgbkgonlopciaa", sum := "9f97edc93a4a023b707792505019c929fc377cead1ba32a02b89f424dd56aa8d", func := "loop.example/g00967/laws.FnOptions", spec := "fnOptions", apart := false, narrowed := true }
def FnOptionsUptoSaid : Prop := fnOptionsUptoRow.holds Try.pinned (OpenSpec.upto fnOptionsSpec)

/-- 'laws.FnExactReadOpt', WHERE WHAT IT READS IS OF BULK AT MOST 1048576: true; the input reads as it did. -/
def fnExactReadOptUptoRow : OpenClaim := { program := "ytkgbkgonlopciaa", sum := "9f97edc93a4a023b707792505019c929fc377cead1ba32a02b89f424dd56aa8d", func := "loop.example/g00967/laws.FnExactReadOpt", spec := "fnExactReadOpt", apart := false, narrowed := true }
def FnExactReadOptUptoSaid : Prop := fnExactReadOptUptoRow.holds Try.pinned (OpenSpec.upto fnExactReadOptSpec)

/-- 'laws.FnExactSegText', WHERE WHAT IT READS IS OF BULK AT MOST 1048576: true; the input reads as it did. -/
def fnExactSegTextUptoRow : OpenClaim := { program := "ytkgbkgonlopciaa", sum := "9f97edc93a4a023b707792505019c929fc377cead1ba32a02b89f424dd56aa8d", func := "loop.example/g00967/laws.FnExactSegText", spec := "fnExactSegText", apart := false, narrowed := true }
def FnExactSegTextUptoSaid : Prop := fnExactSegTextUptoRow.holds Try.pinned (OpenSpec.upto fnExactSegTextSpec)

/-- 'laws.FnExactReadSeg', WHERE WHAT IT READS IS OF BULK AT MOST 1048576: true; the input reads as it did. -/
def fnExactReadSegUptoRow : OpenClaim := { program := "ytkgbkgonlopciaa", sum := "9f97edc93a4a023b707792505019c929fc377cead1ba32a02b89f424dd56aa8d", func := "loop.example/g00967/laws.FnExactReadSeg", spec := "fnExactReadSeg", apart := false, narrowed := true }
def FnExactReadSegUptoSaid : Prop := fnExactReadSegUptoRow.holds Try.pinned (OpenSpec.upto fnExactReadSegSpec)

/-- 'laws.FnSegs', WHERE WHAT IT READS IS OF BULK AT MOST 1048576: true; the input reads as it did. -/
def fnSegsUptoRow : OpenClaim := { program := "ytkgbkgonlopciaa", sum := "9f97edc93a4a023b707792505019c929fc377cead1ba32a02b89f424dd56aa8d", func := "loop.example/g00967/laws.FnSegs", spec := "fnSegs", apart := false, narrowed := true }
def FnSegsUptoSaid : Prop := fnSegsUptoRow.holds Try.pinned (OpenSpec.upto fnSegsSpec)

end Rows
end Go.Proofs.Ytkgbkgonlopciaa

/-
  No cell of these rows narrows 'for every input' (looked for: loops, veiled, ifaces, maps, wideKeys, modest, calm, conditions, laid).
  DERIVED. THE GIVEN ROWS OF THIS SEAT. 6 by the template 'for every input the law returns true; each argument reads behind the call as it read before'; 0 by the template 'total and deterministic' (their statements: YtpfhhmlbciojaaaTotals.lean).
  GIVEN WITH THE SEED: the statements are not yours to turn. If you find one false, say at which input.
  Laid BY PROGRAM, IN A SANDBOX (cutbox-rows.mjs): the forced cells as the released guide's own fill.sh prints them over the translation 06fb535ecde40d22… (all of the seat's roots in one cut). By AI agents, Wed Nov 11 2026. No macro, syntax, notation, axiom, sorry.
-/
import Derived.Test.YtpfhhmlbciojaaaChecked
import GoSem.Claim
import GoSem.ClaimJoined
import GoSem.ClaimMapViews
import Derived.JoinedTies
import Derived.KernelRfl
namespace Go.Proofs.Ytpfhhmlbciojaaa
/- THE CELL 'sum', in the pinned program and in every row, IS THE sha256 OF THE DUMP (.gsa) THAT YtpfhhmlbciojaaaProg.lean LOADS. Nothing in Lean hashes anything: it is a label: what it is worth is what the hold of that sum in a sandbox is worth. -/
noncomputable def Try.pinned : Pinned := { name := "ytpfhhmlbciojaaa", sum := "06fb535ecde40d2297ed366ff02f7bd82a92cf86c80af85f12a3f8d95de22d59", checked := Try.checked }
namespace Rows
def none {H : Type} : Left H := { results := [], args := [] }

/-- 'laws.FnBytes': WHATEVER THE INPUT: true; the input reads as it did. -/
def fnBytesSpec : ChangeSpec := { name := "fnBytes", fn := fun _ => fun
  | [d] => { results := [.lit (.bool true)], args := [d] }
  | _ => none }
def fnBytesRow : OpenClaim := { program := "ytpfhhmlbciojaaa", sum := "06fb535ecde40d2297ed366ff02f7bd82a92cf86c80af85f12a3f8d95de22d59", func := "loop.example/g00967/laws.FnBytes", spec := "fnBytes", apart := false }
def FnBytesSaid : Prop := fnBytesRow.holds Try.pinned (OpenSpec.ofChange fnBytesSpec)

/-- ITS FALSE NEIGHBOUR: 'it returns false'. Refute it at one input. -/
def fnBytesWrong : ChangeSpec := { name := "fnBytes", fn := fun _ => fun
  | [d] => { results := [.lit (.bool false)], args := [d] }
  | _ => none }
def FnBytesWrongFalsely : Prop := fnBytesRow.holds Try.pinned (OpenSpec.ofChange fnBytesWrong)

/-- 'laws.FnFigures': WHATEVER THE INPUT: true; the input reads as it did. -/
def fnFiguresSpec : ChangeSpec := { name := "fnFigures", fn := fun _ => fun
  | [d] => { results := [.lit (.bool true)], args := [d] }
  | _ => none }
def fnFiguresRow : OpenClaim := { program := "ytpfhhmlbciojaaa", sum := "06fb535ecde40d2297ed366ff02f7bd82a92cf86c80af85f12a3f8d95de22d59", func := "loop.example/g00967/laws.FnFigures", spec := "fnFigures", apart := false }
def FnFiguresSaid : Prop := fnFiguresRow.holds Try.pinned (OpenSpec.ofChange fnFiguresSpec)

/-- ITS FALSE NEIGHBOUR: 'it returns false'. Refute it at one input. -/
def fnFiguresWrong : ChangeSpec := { name := "fnFigures", fn := fun _ => fun
  | [d] => { results := [.lit (.bool false)], args := [d] }
  | _ => none }
def FnFiguresWrongFalsely : Prop := fnFiguresRow.holds Try.pinned (OpenSpec.ofChange fnFiguresWrong)

/-- 'laws.FnExactPartsOf': WHATEVER THE INPUT: true; the input reads as it did. -/
def fnExactPartsOfSpec : ChangeSpec := { name := "fnExactPartsOf", fn := fun _ => fun
  | [d] => { results := [.lit (.bool true)], args := [d] }
  | _ => none }
def fnExactPartsOfRow : OpenClaim := { program := "ytpfhhmlbciojaaa", sum := "06fb535ecde40d2297ed366ff02f7bd82a92cf86c80af85f12a3f8d95de22d59", func := "loop.example/g00967/laws.FnExactPartsOf", spec := "fnExactPartsOf", apart := false }
def FnExactPartsOfSaid : Prop := fnExactPartsOfRow.holds Try.pinned (OpenSpec.ofChange fnExactPartsOfSpec)

/-- ITS FALSE NEIGHBOUR: 'it returns false'. Refute it at one input. -/
def fnExactPartsOfWrong : ChangeSpec := { name := "fnExactPartsOf", fn := fun _ => fun
  | [d] => { results := [.lit (.bool false)], args := [d] }
  | _ => none }
def FnExactPartsOfWrongFalsely : Prop := fnExactPartsOfRow.holds Try.pinned (OpenSpec.ofChange fnExactPartsOfWrong)

/-- 'laws.FnExactMapsOk': WHATEVER THE INPUT: true; the input reads as it did. -/
def fnExactMapsOkSpec : ChangeSpec := { name := "fnExactMapsOk", fn := fun _ => fun
  | [d] => { results := [.lit (.bool true)], args := [d] }
  | _ => none }
def fnExactMapsOkRow : OpenClaim := { program := "ytpfhhmlbciojaaa", sum := "06fb535ecde40d2297ed366ff02f7bd82a92cf86c80af85f12a3f8d95de22d59", func := "loop.example/g00967/laws.FnExactMapsOk", spec := "fnExactMapsOk", apart := false }
def FnExactMapsOkSaid : Prop := fnExactMapsOkRow.holds Try.pinned (OpenSpec.ofChange fnExactMapsOkSpec)

/-- ITS FALSE NEIGHBOUR: 'it returns false'. Refute it at one input. -/
def fnExactMapsOkWrong : ChangeSpec := { name := "fnExactMapsOk", fn := fun _ => fun
  | [d] => { results := [.lit (.bool false)], args := [d] }
  | _ => none }
def FnExactMapsOkWrongFalsely : Prop := fnExactMapsOkRow.holds Try.pinned (OpenSpec.ofChange fnExactMapsOkWrong)

/-- 'laws.FnExactSeqAt': WHATEVER THE INPUT: true; the input reads as it did. -/
def fnExactSeqAtSpec : ChangeSpec := { name := "fnExactSeqAt", fn := fun _ => fun
  | [d1, d2] => { results := [.lit (.bool true)], args := [d1, d2] }
  | _ => none }
def fnExactSeqAtRow : OpenClaim := { program := "ytpfhhmlbciojaaa", sum := "06fb535ecde40d2297ed366ff02f7bd82a92cf86c80af85f12a3f8d95de22d59", func := "loop.example/g00967/laws.FnExactSeqAt", spec := "fnExactSeqAt", apart := false }
def FnExactSeqAtSaid : Prop := fnExactSeqAtRow.holds Try.pinned (OpenSpec.ofChange fnExactSeqAtSpec)

/-- ITS FALSE NEIGHBOUR: 'it returns false'. Refute it at one input. -/
def fnExactSeqAtWrong : ChangeSpec := { name := "fnExactSeqAt", fn := fun _ => fun
  | [d1, d2] => { results := [.lit (.bool false)], args := [d1, d2] }
  | _ => none }
def FnExactSeqAtWrongFalsely : Prop := fnExactSeqAtRow.holds Try.pinned (OpenSpec.ofChange fnExactSeqAtWrong)

/-- 'laws.FnExactCutMaps': WHATEVER THE INPUT: true; the input reads as it did. -/
def fnExactCutMapsSpec : ChangeSpec := { name := "fnExactCutMaps", fn := fun _ => fun
  | [d1, d2] => { results := [.lit (.bool true)], args := [d1, d2] }
  | _ => none }
def fnExactCutMapsRow : OpenClaim := { program := "ytpfhhmlbciojaaa", sum := "06fb535ecde40d2297ed366ff02f7bd82a92cf86c80af85f12a3f8d95de22d59", func := "loop.example/g00967/laws.FnExactCutMaps", spec := "fnExactCutMaps", apart := false }
def FnExactCutMapsSaid : Prop := fnExactCutMapsRow.holds Try.pinned (OpenSpec.ofChange fnExactCutMapsSpec)

/-- ITS FALSE NEIGHBOUR: 'it returns false'. Refute it at one input. -/
def fnExactCutMapsWrong : ChangeSpec := { name := "fnExactCutMaps", fn := fun _ => fun
  | [d1, d2] => { results := [.lit (.bool false)], args := [d1, d2] }
  | _ => none }
def FnExactCutMapsWrongFalsely : Prop := fnExactCutMapsRow.holds Try.pinned (OpenSpec.ofChange fnExactCutMapsWrong)

/- THE SECOND FORM. 'bulk': how many values and letters a reading holds, each counted each time it is reached (what is shared counts as often as it is met; a slice's spare places count too). A statement '..UptoSaid' is the law's where the arguments, and the package variables that the reading takes, are together of bulk at most 1048576: NARROWER than '..Said'. Prove '..Said' where nothing that the law and all that it calls make is longer than what came in: it says more and counts as full. Else prove '..UptoSaid'. A law counts once. -/
mutual
def uptoBulk {H : Type} : DataW H → Nat
  | .lit (.string bytes) => bytes.length + 1
  | .lit _ => 1
  | .nil => 1
  | .ptr d => uptoBulk d + 1
  | .slice elems spare => uptoBulkAll elems + uptoBulkAll spare + 1
  | .agg parts => uptoBulkAll parts + 1
  | .iface _ d => uptoBulk d + 1
  | .map entries => uptoBulkEntries entries + 1
  | .held _ => 1
def uptoBulkAll {H : Type} : List (DataW H) → Nat
  | [] => 0
  | d :: r => uptoBulk d + uptoBulkAll r
def uptoBulkEntries {H : Type} : List (Lit × DataW H) → Nat
  | [] => 0
  | x :: r => uptoBulkEntry x + uptoBulkEntries r
def uptoBulkEntry {H : Type} : Lit × DataW H → Nat
  | (.string bytes, d) => bytes.length + uptoBulk d + 1
  | (_, d) => uptoBulk d + 1
 end
def uptoSmall : (H : Type) → List (DataW H) → Bool := fun _ ds => decide (uptoBulkAll ds ≤ 1048576)
def OpenSpec.upto (s : _root_.Go.ChangeSpec) : _root_.Go.OpenSpec := { _root_.Go.OpenSpec.ofChange s with cond := some uptoSmall }

/-- 'laws.FnBytes', WHERE WHAT IT READS IS OF BULK AT MOST 1048576: true; the input reads as it did. -/
def fnBytesUptoRow : OpenClaim := { program := "ytpfhhmlbciojaaa", sum := "06fb535ecde40d2297ed366ff02f7bd82a92cf86c80af85f12a3f8d95de22d59", func := "loop.example/g00967/laws.FnBytes", spec := "fnBytes", apart := false, narrowed := true }
def FnBytesUptoSaid : Prop := fnBytesUptoRow.holds Try.pinned (OpenSpec.upto fnBytesSpec)

/-- 'laws.FnFigures', WHERE WHAT IT READS IS OF BULK AT MOST 1048576: true; the input reads as it did. -/
def fnFiguresUptoRow : OpenClaim := { program := "ytpfhhmlbciojaaa", sum := "06fb535ecde40d2297ed366ff02f7bd82a92cf86c80af85f12a3f8d95de22d59", func := "loop.example/g00967/laws.FnFigures", spec := "fnFigures", apart := false, narrowed := true }
def FnFiguresUptoSaid : Prop := fnFiguresUptoRow.holds Try.pinned (OpenSpec.upto fnFiguresSpec)

/-- 'laws.FnExactPartsOf', WHERE WHAT IT READS IS OF BULK AT MOST 1048576: true; the input reads as it did. -/
def fnExactPartsOfUptoRow : OpenClaim := { program := "ytpfhhmlbciojaaa", sum := "06fb535ecde40d2297ed366ff02f7bd82a92cf86c80af85f12a3f8d95de22d59", func := "loop.example/g00967/laws.FnExactPartsOf", spec := "fnExactPartsOf", apart := false, narrowed := true }
def FnExactPartsOfUptoSaid : Prop := fnExactPartsOfUptoRow.holds Try.pinned (OpenSpec.upto fnExactPartsOfSpec)

/-- 'laws.FnExactMapsOk', WHERE WHAT IT READS IS OF BULK AT MOST 1048576: true; the input reads as it did. -/
def fnExactMapsOkUptoRow : OpenClaim := { program := "ytpfhhmlbciojaaa", sum := "06fb535ecde40d2297ed366ff02f7bd82a92cf86c80af85f12a3f8d95de22d59", func := "loop.example/g00967/laws.FnExactMapsOk", spec := "fnExactMapsOk", apart := false, narrowed := true }
def FnExactMapsOkUptoSaid : Prop := fnExactMapsOkUptoRow.holds Try.pinned (OpenSpec.upto fnExactMapsOkSpec)

/-- 'laws.FnExactSeqAt', WHERE WHAT IT READS IS OF BULK AT MOST 1048576: true; the input reads as it did. -/
def fnExactSeqAtUptoRow : OpenClaim := { program := "ytpfhhmlbciojaaa", sum := "06fb535ecde40d2297ed366ff02f7bd82a92cf86c80af85f12a3f8d95de22d59", func := "loop.example/g00967/laws.FnExactSeqAt", spec := "fnExactSeqAt", apart := false, narrowed := true }
def FnExactSeqAtUptoSaid : Prop := fnExactSeqAtUptoRow.holds Try.pinned (OpenSpec.upto fnExactSeqAtSpec)

/-- 'laws.FnExactCutMaps', WHERE WHAT IT READS IS OF BULK AT MOST 1048576: true; the input reads as it did. -/
def fnExactCutMapsUptoRow : OpenClaim := { program := "ytpfhhmlbciojaaa", sum := "06fb535ecde40d2297ed366ff02f7bd82a92cf86c80af85f12a3f8d95de22d59", func := "loop.example/g00967/laws.FnExactCutMaps", spec := "fnExactCutMaps", apart := false, narrowed := true }
def FnExactCutMapsUptoSaid : Prop := fnExactCutMapsUptoRow.holds Try.pinned (OpenSpec.upto fnExactCutMapsSpec)

end Rows
end Go.Proofs.Ytpfhhmlbciojaaa

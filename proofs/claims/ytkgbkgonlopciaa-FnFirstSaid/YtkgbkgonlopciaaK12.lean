/- Words for the laws of options: an option loaded under a guard, sums of texts. -/
import Derived.Test.YtkgbkgonlopciaaK6
import Derived.Test.YtkgbkgonlopciaaP1
namespace Go.Proofs.Ytkgbkgonlopciaa
open Go.RowKit
set_option linter.unusedVariables false
set_option linter.unusedSimpArgs false
theorem sameOD_yes (o : OD) : sameOD o o = true := (sameOD_iff o o).2 rfl
theorem str_add2 (a b : List UInt8) : str a ++ str b = str (a ++ b) := by
  apply ByteArray.ext
  simp [str]
theorem str_nil' : str [] = ⟨#[]⟩ := rfl
theorem wpl_optGd {ops : Array Oper} {rest : List Oper} {op : Oper} {a : Act} {w : World} {Q : Exit → Act → World → Prop} {x : Operand} {b : Nat} {o : OD} {iv : Value} (hw : Region.wanted op (yielded ops a.tmps) = true) (ho : op.op = .load 27 x)
    (hx : a.eval x = .pointer (some ⟨b, 0, none⟩)) (h : Bx w b (voC o iv)) (hK : wpList Try.prog ops Q rest (a.put op.dst (vo o iv)) w) : wpList Try.prog ops Q (op :: rest) a w := by
  unfold wpList
  rw [if_pos hw]
  left
  exact wp_load_mid 27 x ho b 0 hx (voC o iv) _ (fun j v hj => by rw [Nat.zero_add]; exact h.2 j v hj) Try.underlying27 rfl (by kernel_rfl) hK
end Go.Proofs.Ytkgbkgonlopciaa

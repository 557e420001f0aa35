/- Words for memory, tenth part: segments kept whole in variables. -/
import Derived.Test.YtkgbkgonlopciaaK9
import Derived.Test.YtkgbkgonlopciaaM9
namespace Go.Proofs.Ytkgbkgonlopciaa
open Go.RowKit
set_option linter.unusedVariables false
set_option linter.unusedSimpArgs false
theorem wpl_segI {ops : Array Oper} {rest : List Oper} {op : Oper} {a : Act} {w : World} {Q : Exit → Act → World → Prop} {x : Operand} {b : Nat} {q : SD} {ov : Value} (hgd : op.guard = none) (ho : op.op = .load 37 x)
    (hx : a.eval x = .pointer (some ⟨b, 0, none⟩)) (h : Bx w b (vxC q ov)) (hK : wpList Try.prog ops Q rest (a.put op.dst (vx q ov)) w) : wpList Try.prog ops Q (op :: rest) a w :=
  wpList_load_mid hgd 37 x ho b 0 hx (vxC q ov) _ (fun j v hj => by rw [Nat.zero_add]; exact h.2 j v hj) Try.underlying37 rfl (by kernel_rfl) hK
theorem yields_seg {ops : Array Oper} {S : World → Prop} {op : Oper} {a : Act} {x : Operand} {b : Nat} {q : SD} {ov : Value} (hw : Region.wanted op (yielded ops a.tmps) = true) (ho : op.op = .load 37 x)
    (hx : a.eval x = .pointer (some ⟨b, 0, none⟩)) (h : ∀ w, S w → Bx w b (vxC q ov)) : YieldsIf Try.prog ops S op (vx q ov) a :=
  yieldsIf_load_mid hw 37 x ho b 0 hx (vxC q ov) _ (fun w hw j v hj => by rw [Nat.zero_add]; exact (h w hw).2 j v hj) Try.underlying37 rfl (by kernel_rfl)
theorem wpl_segL {ops : Array Oper} {rest : List Oper} {op : Oper} {a : Act} {w : World} {Q : Exit → Act → World → Prop} {x : Operand} {b : Nat} {q : SD} {ov : Value} (hgd : op.guard = none) (ho : op.op = .load 32 x)
    (hx : a.eval x = .pointer (some ⟨b, 0, none⟩)) (h : Bx w b (vxC q ov)) (hK : wpList Try.prog ops Q rest (a.put op.dst (vx q ov)) w) : wpList Try.prog ops Q (op :: rest) a w :=
  wpList_load_mid hgd 32 x ho b 0 hx (vxC q ov) _ (fun j v hj => by rw [Nat.zero_add]; exact h.2 j v hj) Try.underlying32 rfl (by kernel_rfl) hK
theorem yields_segL {ops : Array Oper} {S : World → Prop} {op : Oper} {a : Act} {x : Operand} {b : Nat} {q : SD} {ov : Value} (hw : Region.wanted op (yielded ops a.tmps) = true) (ho : op.op = .load 32 x)
    (hx : a.eval x = .pointer (some ⟨b, 0, none⟩)) (h : ∀ w, S w → Bx w b (vxC q ov)) : YieldsIf Try.prog ops S op (vx q ov) a :=
  yieldsIf_load_mid hw 32 x ho b 0 hx (vxC q ov) _ (fun w hw j v hj => by rw [Nat.zero_add]; exact (h w hw).2 j v hj) Try.underlying32 rfl (by kernel_rfl)
theorem store_seg (q : SD) (A : Option Addr) (n c : Nat) (w : World) : (Instr.storeAt 37 (.pointer (some ⟨w.heap.size, 0, none⟩)) (vx q (.slice A n c))).run Try.prog
    (w.alloc (.cells #[.int .i64 0, .int .i64 0, .int .i64 0, .int .i64 0, .int .i64 0, .int .i64 0, .int .i64 0, .slice none 0 0, .string ⟨#[]⟩] 37)) = .ok () (w.alloc (.cells (vxC q (.slice A n c)).toArray 37)) := by
  unfold vx vxC
  go_simp
theorem wpl_store_seg {ops : Array Oper} {rest : List Oper} {op : Oper} {a : Act} {w : World} {Q : Exit → Act → World → Prop} {x y : Operand} {q : SD} {A : Option Addr} {n c : Nat} (hgd : op.guard = none) (ho : op.op = .store 37 x y)
    (hx : a.eval x = .pointer (some ⟨w.heap.size, 0, none⟩)) (hy : a.eval y = vx q (.slice A n c)) (hK : wpList Try.prog ops Q rest (a.put op.dst undef) (w.alloc (.cells (vxC q (.slice A n c)).toArray 37))) :
    wpList Try.prog ops Q (op :: rest) a (w.alloc (.cells #[.int .i64 0, .int .i64 0, .int .i64 0, .int .i64 0, .int .i64 0, .int .i64 0, .int .i64 0, .slice none 0 0, .string ⟨#[]⟩] 37)) :=
  wpList_plain hgd fun _ hK2 => by
    unfold Oper.wp execOp
    simp only [ho, hx, hy, Sem.run_bind, store_seg q A n c w, Result.andThen_ok, Sem.run_pure]
    exact hK2 _ _ hK
theorem ids_sum : ∀ {os : List OD} {o : OD}, o ∈ os → o.ids.length ≤ sumO os
  | [], _, h => by cases h
  | p :: os, o, h => by
    unfold sumO
    rcases List.mem_cons.1 h with rfl | h
    · unfold szO; omega
    · have := ids_sum h; omega
end Go.Proofs.Ytkgbkgonlopciaa

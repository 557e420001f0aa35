/- Words for memory, sixth part: options kept whole in variables. -/
import Derived.Test.YtkgbkgonlopciaaProg
import Derived.Test.YtkgbkgonlopciaaK2
import Derived.Test.YtkgbkgonlopciaaK4
import Derived.Test.YtkgbkgonlopciaaM6
import Derived.Deep.MidRow
import Derived.Deep.RegionHeld
namespace Go.Proofs.Ytkgbkgonlopciaa
open Go.RowKit
set_option linter.unusedVariables false
set_option linter.unusedSimpArgs false

/-- block b begins with these cells -/
def Bx (w : World) (b : Nat) (cs : List Value) : Prop := b < w.heap.size ∧ ∀ j v, cs[j]? = some v → w.cell? ⟨b, j, none⟩ = some v
theorem Bx.below {w w' : World} {b : Nat} {cs : List Value} (h : Bx w b cs) (hb : Below w.heap.size w w') : Bx w' b cs :=
  ⟨Nat.lt_of_lt_of_le h.1 hb.size, fun j v hj => (hb.cell (p := ⟨b, j, none⟩) h.1).trans (h.2 j v hj)⟩
theorem Bx.new (w : World) (cs : Array Value) (t : TypeId) : Bx (w.alloc (.cells cs t)) w.heap.size cs.toList :=
  ⟨by simp, fun j v hj => by have := new_cells w cs t j v hj; unfold Addr.add at this; split at this <;> simp_all⟩
theorem Bx.alloc {w : World} {b : Nat} {cs : List Value} (h : Bx w b cs) (o : Obj) : Bx (w.alloc o) b cs := h.below ((Below.refl _ _).alloc (Nat.le_refl _) o)
theorem Bx.drewN {w : World} {b : Nat} {cs : List Value} (h : Bx w b cs) (n : Nat) : Bx (w.drewN n) b cs := h
theorem Bx.drew {w : World} {b : Nat} {cs : List Value} (h : Bx w b cs) : Bx w.drew b cs := h
theorem Bx.load {P : Program} {w : World} {b : Nat} {cs : List Value} (h : Bx w b cs) {ty : TypeId} {d : TypeDesc} (hu : P.underlying ty = some d) (hd : d.isRow = true) (hi : (P.info? ty).map (·.size) = some cs.length) :
    (Instr.loadAt ty (.pointer (some ⟨b, 0, none⟩))).run P w = .ok (.agg cs.toArray) w :=
  run_loadAt_mid w b 0 ty cs d (fun j v hj => by rw [Nat.zero_add]; exact h.2 j v hj) hu hd hi
/-- the cells of an option -/
def voC (o : OD) (iv : Value) : List Value := [.int .i64 o.k, .int .i64 o.id, .int .i64 o.ad, .int .i64 o.po, .int .i64 o.to, .int .i64 o.no, .int .i64 o.se, .int .i64 o.su, .int .i64 o.le, .int .i64 o.ac, .bool o.fl, .string o.ke, .string o.ma, iv]
theorem vo_voC (o : OD) (iv : Value) : vo o iv = .agg (voC o iv).toArray := rfl
theorem load_optL {w : World} {b : Nat} {o : OD} {iv : Value} (h : Bx w b (voC o iv)) : (Instr.loadAt 24 (.pointer (some ⟨b, 0, none⟩))).run Try.prog w = .ok (vo o iv) w :=
  h.load Try.underlying24 rfl (by kernel_rfl)
theorem load_opt {w : World} {b : Nat} {o : OD} {iv : Value} (h : Bx w b (voC o iv)) : (Instr.loadAt 27 (.pointer (some ⟨b, 0, none⟩))).run Try.prog w = .ok (vo o iv) w :=
  h.load Try.underlying27 rfl (by kernel_rfl)
theorem wpl_optL {ops : Array Oper} {rest : List Oper} {op : Oper} {a : Act} {w : World} {Q : Exit → Act → World → Prop} {x : Operand} {b : Nat} {o : OD} {iv : Value} (hgd : op.guard = none) (ho : op.op = .load 24 x)
    (hx : a.eval x = .pointer (some ⟨b, 0, none⟩)) (h : Bx w b (voC o iv)) (hK : wpList Try.prog ops Q rest (a.put op.dst (vo o iv)) w) : wpList Try.prog ops Q (op :: rest) a w :=
  wpList_load_mid hgd 24 x ho b 0 hx (voC o iv) _ (fun j v hj => by rw [Nat.zero_add]; exact h.2 j v hj) Try.underlying24 rfl (by kernel_rfl) hK
theorem wpl_opt {ops : Array Oper} {rest : List Oper} {op : Oper} {a : Act} {w : World} {Q : Exit → Act → World → Prop} {x : Operand} {b : Nat} {o : OD} {iv : Value} (hgd : op.guard = none) (ho : op.op = .load 27 x)
    (hx : a.eval x = .pointer (some ⟨b, 0, none⟩)) (h : Bx w b (voC o iv)) (hK : wpList Try.prog ops Q rest (a.put op.dst (vo o iv)) w) : wpList Try.prog ops Q (op :: rest) a w :=
  wpList_load_mid hgd 27 x ho b 0 hx (voC o iv) _ (fun j v hj => by rw [Nat.zero_add]; exact h.2 j v hj) Try.underlying27 rfl (by kernel_rfl) hK
theorem yields_optL {ops : Array Oper} {S : World → Prop} {op : Oper} {a : Act} {x : Operand} {b : Nat} {o : OD} {iv : Value} (hw : Region.wanted op (yielded ops a.tmps) = true) (ho : op.op = .load 24 x)
    (hx : a.eval x = .pointer (some ⟨b, 0, none⟩)) (h : ∀ w, S w → Bx w b (voC o iv)) : YieldsIf Try.prog ops S op (vo o iv) a :=
  yieldsIf_load_mid hw 24 x ho b 0 hx (voC o iv) _ (fun w hw j v hj => by rw [Nat.zero_add]; exact (h w hw).2 j v hj) Try.underlying24 rfl (by kernel_rfl)
theorem yields_opt {ops : Array Oper} {S : World → Prop} {op : Oper} {a : Act} {x : Operand} {b : Nat} {o : OD} {iv : Value} (hw : Region.wanted op (yielded ops a.tmps) = true) (ho : op.op = .load 27 x)
    (hx : a.eval x = .pointer (some ⟨b, 0, none⟩)) (h : ∀ w, S w → Bx w b (voC o iv)) : YieldsIf Try.prog ops S op (vo o iv) a :=
  yieldsIf_load_mid hw 27 x ho b 0 hx (voC o iv) _ (fun w hw j v hj => by rw [Nat.zero_add]; exact (h w hw).2 j v hj) Try.underlying27 rfl (by kernel_rfl)
theorem box_optL (o : OD) (A : Option Addr) (n c : Nat) (w : World) : (Instr.box 24 (vo o (.slice A n c))).run Try.prog w = .ok (.pointer (some ⟨w.heap.size, 0, none⟩)) (w.alloc (.cells (voC o (.slice A n c)).toArray 24)) := by
  unfold vo voC
  go_simp
theorem box_opt (o : OD) (A : Option Addr) (n c : Nat) (w : World) : (Instr.box 27 (vo o (.slice A n c))).run Try.prog w = .ok (.pointer (some ⟨w.heap.size, 0, none⟩)) (w.alloc (.cells (voC o (.slice A n c)).toArray 27)) := by
  unfold vo voC
  go_simp
theorem store_opt (o : OD) (A : Option Addr) (n c : Nat) (w : World) : (Instr.storeAt 27 (.pointer (some ⟨w.heap.size, 0, none⟩)) (vo o (.slice A n c))).run Try.prog
    (w.alloc (.cells #[.int .i64 0, .int .i64 0, .int .i64 0, .int .i64 0, .int .i64 0, .int .i64 0, .int .i64 0, .int .i64 0, .int .i64 0, .int .i64 0, .bool false, .string ⟨#[]⟩, .string ⟨#[]⟩, .slice none 0 0] 27)) = .ok () (w.alloc (.cells (voC o (.slice A n c)).toArray 27)) := by
  unfold vo voC
  go_simp
theorem wpl_store_opt {ops : Array Oper} {rest : List Oper} {op : Oper} {a : Act} {w : World} {Q : Exit → Act → World → Prop} {x y : Operand} {o : OD} {A : Option Addr} {n c : Nat} (hgd : op.guard = none) (ho : op.op = .store 27 x y)
    (hx : a.eval x = .pointer (some ⟨w.heap.size, 0, none⟩)) (hy : a.eval y = vo o (.slice A n c)) (hK : wpList Try.prog ops Q rest (a.put op.dst undef) (w.alloc (.cells (voC o (.slice A n c)).toArray 27))) :
    wpList Try.prog ops Q (op :: rest) a (w.alloc (.cells #[.int .i64 0, .int .i64 0, .int .i64 0, .int .i64 0, .int .i64 0, .int .i64 0, .int .i64 0, .int .i64 0, .int .i64 0, .int .i64 0, .bool false, .string ⟨#[]⟩, .string ⟨#[]⟩, .slice none 0 0] 27)) :=
  wpList_plain hgd fun _ hK2 => by
    unfold Oper.wp execOp
    simp only [ho, hx, hy, Sem.run_bind, store_opt o A n c w, Result.andThen_ok, Sem.run_pure]
    exact hK2 _ _ hK
end Go.Proofs.Ytkgbkgonlopciaa

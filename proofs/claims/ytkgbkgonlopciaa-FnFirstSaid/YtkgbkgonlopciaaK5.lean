/- Long conditions of one region, walked by groups of operations: the frame is a letter, its live slots are facts. -/
import Derived.Test.YtkgbkgonlopciaaK2
namespace Go.Proofs.Ytkgbkgonlopciaa
open Go.RowKit
set_option linter.unusedVariables false
set_option linter.unusedSimpArgs false

section
variable {P : Program} {ops : Array Oper} {Q : Exit → Act → World → Prop} {a : Act} {w w' : World} {rest : List Oper} {o : Oper}
theorem put_size (d : Nat) (v : Value) : (a.put (some d) v).tmps.size = a.tmps.size := by simp [Act.put]
theorem put_same {d : Nat} (h : d < a.tmps.size) (v : Value) : (a.put (some d) v).tmps[d]? = some v := by simp [Act.put, h]
theorem put_other {d e : Nat} (h : d ≠ e) (v : Value) : (a.put (some d) v).tmps[e]? = a.tmps[e]? := by simp [Act.put, h]
theorem put_defers (d : Nat) (v : Value) : (a.put (some d) v).defers = a.defers := rfl
theorem eval_tmp {t : Nat} {v : Value} (h : a.tmps[t]? = some v) : a.eval (.tmp t) = v := by
  simp [Act.eval, Array.getD_eq_getD_getElem?, h]
theorem getD_of {t : Nat} {v : Value} (h : a.tmps[t]? = some v) : a.tmps.getD t undef = v := by simp [Array.getD_eq_getD_getElem?, h]
/-- what the frame holds in its dead slots is forgotten -/
theorem forget2 {l : List Oper} {n s1 s2 : Nat} {p1 p2 : Value} (hd : a.defers = []) (hn : a.tmps.size = n) (h1 : a.tmps[s1]? = some p1) (h2 : a.tmps[s2]? = some p2)
    (hK : ∀ a : Act, a.defers = [] → a.tmps.size = n → a.tmps[s1]? = some p1 → a.tmps[s2]? = some p2 → wpList P ops Q l a w) : wpList P ops Q l a w := hK a hd hn h1 h2
/-- the operation runs -/
theorem wp_u {v : Value} (hg : o.guard = none) (hr : (execOp a.eval o).run P w = .ok (.value v) w') (hK : wpList P ops Q rest (a.put o.dst v) w') : wpList P ops Q (o :: rest) a w := by
  unfold wpList
  rw [if_pos (by simp [Region.wanted, hg])]
  left
  unfold Oper.wp
  rw [hr]
  exact hK
theorem wp_g {v : Value} {g : Nat} {b : Bool} (hg : o.guard = some (g, b)) (hy : yielded ops a.tmps g = some b) (hr : (execOp a.eval o).run P w = .ok (.value v) w') (hK : wpList P ops Q rest (a.put o.dst v) w') : wpList P ops Q (o :: rest) a w := by
  unfold wpList
  rw [if_pos (by simp [Region.wanted, hg, hy])]
  left
  unfold Oper.wp
  rw [hr]
  exact hK
theorem wp_n {g : Nat} {b c : Bool} (hg : o.guard = some (g, b)) (hy : yielded ops a.tmps g = some c) (hbc : c ≠ b) (hK : wpList P ops Q rest (a.put o.dst undef) w) : wpList P ops Q (o :: rest) a w := by
  unfold wpList
  rw [if_neg (by simp [Region.wanted, hg, hy, hbc])]
  exact hK
theorem wp_c {g f : Nat} {b : Bool} {args : Array Value} {R : Ending → World → Prop} (hg : o.guard = some (g, b)) (hy : yielded ops a.tmps g = some b) (hr : (execOp a.eval o).run P w = .ok (.enter f args) w) (hc : Calls P f args w R)
    (hK : ∀ e w', R e w' → ∃ v, e = .returned v ∧ wpList P ops Q rest (a.put o.dst v) w') : wpList P ops Q (o :: rest) a w := by
  unfold wpList
  rw [if_pos (by simp [Region.wanted, hg, hy])]
  left
  unfold Oper.wp
  rw [hr, Oper.upon_enter]
  refine hc.mono fun e w' h => ?_
  obtain ⟨v, rfl, hv⟩ := hK e w' h
  exact hv
theorem yield_of {g m : Nat} {b : Bool} (hm : (ops[g]?).bind (·.dst) = some m) (h : a.tmps[m]? = some (.bool b)) : yielded ops a.tmps g = some b := by
  unfold yielded
  rw [hm, Option.bind_some, h]

set_option maxHeartbeats 1600000 in
theorem grp_and {o1 o2 o3 o4 o5 o6 o7 : Oper} {T t1 t2 j d m g s1 s2 : Nat} {p1 p2 q1 q2 x y : Value} {b e : Bool}
    (hd : [o1.dst, o2.dst, o3.dst, o4.dst, o5.dst, o6.dst, o7.dst] = [some d, some (d + 1), some (d + 2), some (d + 3), some (d + 4), some (d + 5), some (d + 6)])
    (hg : [o1.guard, o2.guard, o3.guard, o4.guard, o5.guard, o6.guard, o7.guard] = [some (g, true), some (g, true), some (g, true), some (g, true), some (g, true), none, none])
    (ho : [o1.op, o2.op, o3.op, o4.op, o5.op, o6.op, o7.op] = [.fieldAddr T (.tmp s1) j, .load t1 (.tmp d), .fieldAddr T (.tmp s2) j, .load t1 (.tmp (d + 2)), .binOp .eql t1 (.tmp (d + 1)) (.tmp (d + 3)) t2, .pick (.tmp m) (.tmp (d + 4)) (.const (.bool false)), .move (.tmp (d + 5))])
    (hm : (ops[g]?).bind (·.dst) = some m) (hmd : m < d) (hs1d : s1 < d) (hs2d : s2 < d) (hsz : d + 6 < a.tmps.size) (hs1 : a.tmps[s1]? = some p1) (hs2 : a.tmps[s2]? = some p2) (hb : a.tmps[m]? = some (.bool b))
    (hf1 : (Instr.fieldAt T p1 j).run P w = .ok q1 w) (hf2 : (Instr.fieldAt T p2 j).run P w = .ok q2 w) (hl1 : (Instr.loadAt t1 q1).run P w = .ok x w) (hl2 : (Instr.loadAt t1 q2).run P w = .ok y w)
    (he : (do eqGuard .eql t1 (.tmp (d + 1)) (.tmp (d + 3)) x y; binOp .eql t1 x y : Sem Value).run P w = .ok (.bool e) w)
    (hK : ∀ a' : Act, a'.defers = a.defers → a'.tmps.size = a.tmps.size → (∀ i, i < d → a'.tmps[i]? = a.tmps[i]?) → a'.tmps[d + 6]? = some (.bool (b && e)) → wpList P ops Q rest a' w) :
    wpList P ops Q (o1 :: o2 :: o3 :: o4 :: o5 :: o6 :: o7 :: rest) a w := by
  simp only [List.cons.injEq, and_true] at hd hg ho
  obtain ⟨d1, d2, d3, d4, d5, d6, d7⟩ := hd
  obtain ⟨g1, g2, g3, g4, g5, g6, g7⟩ := hg
  obtain ⟨e1, e2, e3, e4, e5, e6, e7⟩ := ho
  have Y : ∀ a' : Act, a'.tmps[m]? = some (.bool b) → yielded ops a'.tmps g = some b := fun a' h => yield_of hm h
  cases b
  · refine wp_n g1 (Y _ hb) (by simp) ?_
    rw [d1]
    refine wp_n g2 (Y _ (by rw [put_other (by omega)]; exact hb)) (by simp) ?_
    rw [d2]
    refine wp_n g3 (Y _ (by rw [put_other (by omega), put_other (by omega)]; exact hb)) (by simp) ?_
    rw [d3]
    refine wp_n g4 (Y _ (by rw [put_other (by omega), put_other (by omega), put_other (by omega)]; exact hb)) (by simp) ?_
    rw [d4]
    refine wp_n g5 (Y _ (by rw [put_other (by omega), put_other (by omega), put_other (by omega), put_other (by omega)]; exact hb)) (by simp) ?_
    rw [d5]
    have hb5 : (((((a.put (some d) undef).put (some (d + 1)) undef).put (some (d + 2)) undef).put (some (d + 3)) undef).put (some (d + 4)) undef).tmps[m]? = some (.bool false) := by
      rw [put_other (by omega), put_other (by omega), put_other (by omega), put_other (by omega), put_other (by omega)]; exact hb
    refine wp_u (v := .bool false) g6 (by unfold execOp; rw [e6]; dsimp only; rw [eval_tmp hb5]; rfl) ?_
    rw [d6]
    refine wp_u (v := .bool false) g7 (by unfold execOp; rw [e7]; dsimp only; rw [eval_tmp (put_same (by (try simp only [put_size]); omega) _)]; rfl) ?_
    rw [d7]
    refine hK _ (by simp only [put_defers]) (by simp only [put_size]) (fun i hi => ?_) (by rw [put_same (by (try simp only [put_size]); omega)]; rfl)
    rw [put_other (by omega), put_other (by omega), put_other (by omega), put_other (by omega), put_other (by omega), put_other (by omega), put_other (by omega)]
  · refine wp_g (v := q1) g1 (Y _ hb) (w' := w) (by unfold execOp; rw [e1]; dsimp only; rw [eval_tmp hs1, Sem.run_bind, hf1]; rfl) ?_
    rw [d1]
    refine wp_g (v := x) g2 (Y _ (by rw [put_other (by omega)]; exact hb)) (w' := w) (by unfold execOp; rw [e2]; dsimp only; rw [eval_tmp (put_same (by (try simp only [put_size]); omega) _), Sem.run_bind, hl1]; rfl) ?_
    rw [d2]
    have hs2' : ((a.put (some d) q1).put (some (d + 1)) x).tmps[s2]? = some p2 := by rw [put_other (by omega), put_other (by omega)]; exact hs2
    refine wp_g (v := q2) g3 (Y _ (by rw [put_other (by omega), put_other (by omega)]; exact hb)) (w' := w) (by unfold execOp; rw [e3]; dsimp only; rw [eval_tmp hs2', Sem.run_bind, hf2]; rfl) ?_
    rw [d3]
    refine wp_g (v := y) g4 (Y _ (by rw [put_other (by omega), put_other (by omega), put_other (by omega)]; exact hb)) (w' := w) (by unfold execOp; rw [e4]; dsimp only; rw [eval_tmp (put_same (by (try simp only [put_size]); omega) _), Sem.run_bind, hl2]; rfl) ?_
    rw [d4]
    have hx5 : ((((a.put (some d) q1).put (some (d + 1)) x).put (some (d + 2)) q2).put (some (d + 3)) y).tmps[d + 1]? = some x := by rw [put_other (by omega), put_other (by omega), put_same (by (try simp only [put_size]); omega)]
    have hy5 : ((((a.put (some d) q1).put (some (d + 1)) x).put (some (d + 2)) q2).put (some (d + 3)) y).tmps[d + 3]? = some y := by rw [put_same (by (try simp only [put_size]); omega)]
    refine wp_g (v := .bool e) g5 (Y _ (by rw [put_other (by omega), put_other (by omega), put_other (by omega), put_other (by omega)]; exact hb)) (w' := w) (by unfold execOp; rw [e5]; dsimp only; rw [eval_tmp hx5, eval_tmp hy5, Sem.run_bind, he]; rfl) ?_
    rw [d5]
    have hb5 : (((((a.put (some d) q1).put (some (d + 1)) x).put (some (d + 2)) q2).put (some (d + 3)) y).put (some (d + 4)) (.bool e)).tmps[m]? = some (.bool true) := by
      rw [put_other (by omega), put_other (by omega), put_other (by omega), put_other (by omega), put_other (by omega)]; exact hb
    refine wp_u (v := .bool e) g6 (w' := w) (by unfold execOp; rw [e6]; dsimp only; rw [eval_tmp hb5, eval_tmp (put_same (by (try simp only [put_size]); omega) _)]; rfl) ?_
    rw [d6]
    refine wp_u (v := .bool e) g7 (w' := w) (by unfold execOp; rw [e7]; dsimp only; rw [eval_tmp (put_same (by (try simp only [put_size]); omega) _)]; rfl) ?_
    rw [d7]
    refine hK _ (by simp only [put_defers]) (by simp only [put_size]) (fun i hi => ?_) (by rw [put_same (by (try simp only [put_size]); omega)]; rfl)
    rw [put_other (by omega), put_other (by omega), put_other (by omega), put_other (by omega), put_other (by omega), put_other (by omega), put_other (by omega)]
set_option maxHeartbeats 1600000 in
theorem grp_fin {o1 o2 o3 o4 o5 o6 o7 : Oper} {T t1 t2 j d m g s1 s2 z : Nat} {p1 p2 q1 q2 x y : Value} {b e : Bool}
    (hd : [o1.dst, o2.dst, o3.dst, o4.dst, o5.dst, o6.dst, o7.dst] = [some d, some (d + 1), some (d + 2), some (d + 3), some (d + 4), some (d + 5), some z])
    (hg : [o1.guard, o2.guard, o3.guard, o4.guard, o5.guard, o6.guard, o7.guard] = [some (g, true), some (g, true), some (g, true), some (g, true), some (g, true), none, none])
    (ho : [o1.op, o2.op, o3.op, o4.op, o5.op, o6.op, o7.op] = [.fieldAddr T (.tmp s1) j, .load t1 (.tmp d), .fieldAddr T (.tmp s2) j, .load t1 (.tmp (d + 2)), .binOp .eql t1 (.tmp (d + 1)) (.tmp (d + 3)) t2, .pick (.tmp m) (.tmp (d + 4)) (.const (.bool false)), .assign (.tmp (d + 5))])
    (hm : (ops[g]?).bind (·.dst) = some m) (hmd : m < d) (hs1d : s1 < d) (hs2d : s2 < d) (hzd : z < d) (hsz : d + 5 < a.tmps.size) (hs1 : a.tmps[s1]? = some p1) (hs2 : a.tmps[s2]? = some p2) (hb : a.tmps[m]? = some (.bool b))
    (hf1 : (Instr.fieldAt T p1 j).run P w = .ok q1 w) (hf2 : (Instr.fieldAt T p2 j).run P w = .ok q2 w) (hl1 : (Instr.loadAt t1 q1).run P w = .ok x w) (hl2 : (Instr.loadAt t1 q2).run P w = .ok y w)
    (he : (do eqGuard .eql t1 (.tmp (d + 1)) (.tmp (d + 3)) x y; binOp .eql t1 x y : Sem Value).run P w = .ok (.bool e) w)
    (hK : ∀ a' : Act, a'.defers = a.defers → a'.tmps.size = a.tmps.size → (∀ i, i < d → i ≠ z → a'.tmps[i]? = a.tmps[i]?) → a'.tmps[z]? = some (.bool (b && e)) → wpList P ops Q rest a' w) :
    wpList P ops Q (o1 :: o2 :: o3 :: o4 :: o5 :: o6 :: o7 :: rest) a w := by
  simp only [List.cons.injEq, and_true] at hd hg ho
  obtain ⟨d1, d2, d3, d4, d5, d6, d7⟩ := hd
  obtain ⟨g1, g2, g3, g4, g5, g6, g7⟩ := hg
  obtain ⟨e1, e2, e3, e4, e5, e6, e7⟩ := ho
  have Y : ∀ a' : Act, a'.tmps[m]? = some (.bool b) → yielded ops a'.tmps g = some b := fun a' h => yield_of hm h
  cases b
  · refine wp_n g1 (Y _ hb) (by simp) ?_
    rw [d1]
    refine wp_n g2 (Y _ (by rw [put_other (by omega)]; exact hb)) (by simp) ?_
    rw [d2]
    refine wp_n g3 (Y _ (by rw [put_other (by omega), put_other (by omega)]; exact hb)) (by simp) ?_
    rw [d3]
    refine wp_n g4 (Y _ (by rw [put_other (by omega), put_other (by omega), put_other (by omega)]; exact hb)) (by simp) ?_
    rw [d4]
    refine wp_n g5 (Y _ (by rw [put_other (by omega), put_other (by omega), put_other (by omega), put_other (by omega)]; exact hb)) (by simp) ?_
    rw [d5]
    have hb5 : (((((a.put (some d) undef).put (some (d + 1)) undef).put (some (d + 2)) undef).put (some (d + 3)) undef).put (some (d + 4)) undef).tmps[m]? = some (.bool false) := by
      rw [put_other (by omega), put_other (by omega), put_other (by omega), put_other (by omega), put_other (by omega)]; exact hb
    refine wp_u (v := .bool false) g6 (by unfold execOp; rw [e6]; dsimp only; rw [eval_tmp hb5]; rfl) ?_
    rw [d6]
    refine wp_u (v := .bool false) g7 (by unfold execOp; rw [e7]; dsimp only; rw [eval_tmp (put_same (by (try simp only [put_size]); omega) _)]; rfl) ?_
    rw [d7]
    refine hK _ (by simp only [put_defers]) (by simp only [put_size]) (fun i hi hz => ?_) (by rw [put_same (by (try simp only [put_size]); omega)]; rfl)
    rw [put_other (by omega), put_other (by omega), put_other (by omega), put_other (by omega), put_other (by omega), put_other (by omega), put_other (by omega)]
  · refine wp_g (v := q1) g1 (Y _ hb) (w' := w) (by unfold execOp; rw [e1]; dsimp only; rw [eval_tmp hs1, Sem.run_bind, hf1]; rfl) ?_
    rw [d1]
    refine wp_g (v := x) g2 (Y _ (by rw [put_other (by omega)]; exact hb)) (w' := w) (by unfold execOp; rw [e2]; dsimp only; rw [eval_tmp (put_same (by (try simp only [put_size]); omega) _), Sem.run_bind, hl1]; rfl) ?_
    rw [d2]
    have hs2' : ((a.put (some d) q1).put (some (d + 1)) x).tmps[s2]? = some p2 := by rw [put_other (by omega), put_other (by omega)]; exact hs2
    refine wp_g (v := q2) g3 (Y _ (by rw [put_other (by omega), put_other (by omega)]; exact hb)) (w' := w) (by unfold execOp; rw [e3]; dsimp only; rw [eval_tmp hs2', Sem.run_bind, hf2]; rfl) ?_
    rw [d3]
    refine wp_g (v := y) g4 (Y _ (by rw [put_other (by omega), put_other (by omega), put_other (by omega)]; exact hb)) (w' := w) (by unfold execOp; rw [e4]; dsimp only; rw [eval_tmp (put_same (by (try simp only [put_size]); omega) _), Sem.run_bind, hl2]; rfl) ?_
    rw [d4]
    have hx5 : ((((a.put (some d) q1).put (some (d + 1)) x).put (some (d + 2)) q2).put (some (d + 3)) y).tmps[d + 1]? = some x := by rw [put_other (by omega), put_other (by omega), put_same (by (try simp only [put_size]); omega)]
    have hy5 : ((((a.put (some d) q1).put (some (d + 1)) x).put (some (d + 2)) q2).put (some (d + 3)) y).tmps[d + 3]? = some y := by rw [put_same (by (try simp only [put_size]); omega)]
    refine wp_g (v := .bool e) g5 (Y _ (by rw [put_other (by omega), put_other (by omega), put_other (by omega), put_other (by omega)]; exact hb)) (w' := w) (by unfold execOp; rw [e5]; dsimp only; rw [eval_tmp hx5, eval_tmp hy5, Sem.run_bind, he]; rfl) ?_
    rw [d5]
    have hb5 : (((((a.put (some d) q1).put (some (d + 1)) x).put (some (d + 2)) q2).put (some (d + 3)) y).put (some (d + 4)) (.bool e)).tmps[m]? = some (.bool true) := by
      rw [put_other (by omega), put_other (by omega), put_other (by omega), put_other (by omega), put_other (by omega)]; exact hb
    refine wp_u (v := .bool e) g6 (w' := w) (by unfold execOp; rw [e6]; dsimp only; rw [eval_tmp hb5, eval_tmp (put_same (by (try simp only [put_size]); omega) _)]; rfl) ?_
    rw [d6]
    refine wp_u (v := .bool e) g7 (w' := w) (by unfold execOp; rw [e7]; dsimp only; rw [eval_tmp (put_same (by (try simp only [put_size]); omega) _)]; rfl) ?_
    rw [d7]
    refine hK _ (by simp only [put_defers]) (by simp only [put_size]) (fun i hi hz => ?_) (by rw [put_same (by (try simp only [put_size]); omega)]; rfl)
    rw [put_other (by omega), put_other (by omega), put_other (by omega), put_other (by omega), put_other (by omega), put_other (by omega), put_other (by omega)]
/-- 'x.f == y.f', the first of a chain: six operations -/
theorem grp_first {o1 o2 o3 o4 o5 o6 : Oper} {T t1 t2 j d s1 s2 : Nat} {p1 p2 q1 q2 x y : Value} {e : Bool}
    (hd : [o1.dst, o2.dst, o3.dst, o4.dst, o5.dst, o6.dst] = [some d, some (d + 1), some (d + 2), some (d + 3), some (d + 4), some (d + 5)])
    (hg : [o1.guard, o2.guard, o3.guard, o4.guard, o5.guard, o6.guard] = [none, none, none, none, none, none])
    (ho : [o1.op, o2.op, o3.op, o4.op, o5.op, o6.op] = [.fieldAddr T (.tmp s1) j, .load t1 (.tmp d), .fieldAddr T (.tmp s2) j, .load t1 (.tmp (d + 2)), .binOp .eql t1 (.tmp (d + 1)) (.tmp (d + 3)) t2, .move (.tmp (d + 4))])
    (hs1d : s1 < d) (hs2d : s2 < d) (hsz : d + 5 < a.tmps.size) (hs1 : a.tmps[s1]? = some p1) (hs2 : a.tmps[s2]? = some p2)
    (hf1 : (Instr.fieldAt T p1 j).run P w = .ok q1 w) (hf2 : (Instr.fieldAt T p2 j).run P w = .ok q2 w) (hl1 : (Instr.loadAt t1 q1).run P w = .ok x w) (hl2 : (Instr.loadAt t1 q2).run P w = .ok y w)
    (he : (do eqGuard .eql t1 (.tmp (d + 1)) (.tmp (d + 3)) x y; binOp .eql t1 x y : Sem Value).run P w = .ok (.bool e) w)
    (hK : ∀ a' : Act, a'.defers = a.defers → a'.tmps.size = a.tmps.size → (∀ i, i < d → a'.tmps[i]? = a.tmps[i]?) → a'.tmps[d + 5]? = some (.bool e) → wpList P ops Q rest a' w) :
    wpList P ops Q (o1 :: o2 :: o3 :: o4 :: o5 :: o6 :: rest) a w := by
  simp only [List.cons.injEq, and_true] at hd hg ho
  obtain ⟨d1, d2, d3, d4, d5, d6⟩ := hd
  obtain ⟨g1, g2, g3, g4, g5, g6⟩ := hg
  obtain ⟨e1, e2, e3, e4, e5, e6⟩ := ho
  refine wp_u (v := q1) g1 (w' := w) (by unfold execOp; rw [e1]; dsimp only; rw [eval_tmp hs1, Sem.run_bind, hf1]; rfl) ?_
  rw [d1]
  refine wp_u (v := x) g2 (w' := w) (by unfold execOp; rw [e2]; dsimp only; rw [eval_tmp (put_same (by (try simp only [put_size]); omega) _), Sem.run_bind, hl1]; rfl) ?_
  rw [d2]
  have hs2' : ((a.put (some d) q1).put (some (d + 1)) x).tmps[s2]? = some p2 := by rw [put_other (by omega), put_other (by omega)]; exact hs2
  refine wp_u (v := q2) g3 (w' := w) (by unfold execOp; rw [e3]; dsimp only; rw [eval_tmp hs2', Sem.run_bind, hf2]; rfl) ?_
  rw [d3]
  refine wp_u (v := y) g4 (w' := w) (by unfold execOp; rw [e4]; dsimp only; rw [eval_tmp (put_same (by (try simp only [put_size]); omega) _), Sem.run_bind, hl2]; rfl) ?_
  rw [d4]
  have hx5 : ((((a.put (some d) q1).put (some (d + 1)) x).put (some (d + 2)) q2).put (some (d + 3)) y).tmps[d + 1]? = some x := by rw [put_other (by omega), put_other (by omega), put_same (by simp only [put_size]; omega)]
  have hy5 : ((((a.put (some d) q1).put (some (d + 1)) x).put (some (d + 2)) q2).put (some (d + 3)) y).tmps[d + 3]? = some y := by rw [put_same (by simp only [put_size]; omega)]
  refine wp_u (v := .bool e) g5 (w' := w) (by unfold execOp; rw [e5]; dsimp only; rw [eval_tmp hx5, eval_tmp hy5, Sem.run_bind, he]; rfl) ?_
  rw [d5]
  refine wp_u (v := .bool e) g6 (w' := w) (by unfold execOp; rw [e6]; dsimp only; rw [eval_tmp (put_same (by (try simp only [put_size]); omega) _)]; rfl) ?_
  rw [d6]
  refine hK _ (by simp only [put_defers]) (by simp only [put_size]) (fun i hi => ?_) (by rw [put_same (by simp only [put_size]; omega)])
  rw [put_other (by omega), put_other (by omega), put_other (by omega), put_other (by omega), put_other (by omega), put_other (by omega)]
set_option maxHeartbeats 1600000 in
/-- a call at the end of a chain, and where the answer is laid: seven operations -/
theorem grp_call {o1 o2 o3 o4 o5 o6 o7 : Oper} {T t1 j d d1' d3' m g s1 s2 z f : Nat} {p1 p2 q1 q2 x y : Value} {b r : Bool} {R : Ending → World → Prop} {S : World → Prop}
    (hd : [o1.dst, o2.dst, o3.dst, o4.dst, o5.dst, o6.dst, o7.dst] = [some d, some (d + 1), some (d + 2), some (d + 3), some (d + 4), some (d + 5), some z])
    (hg : [o1.guard, o2.guard, o3.guard, o4.guard, o5.guard, o6.guard, o7.guard] = [some (g, true), some (g, true), some (g, true), some (g, true), some (g, true), none, none])
    (ho : [o1.op, o2.op, o3.op, o4.op, o6.op, o7.op] = [.fieldAddr T (.tmp s1) j, .load t1 (.tmp d), .fieldAddr T (.tmp s2) j, .load t1 (.tmp (d + 2)), .pick (.tmp m) (.tmp (d + 4)) (.const (.bool false)), .assign (.tmp (d + 5))])
    (hm : (ops[g]?).bind (·.dst) = some m) (hmd : m < d) (hs1d : s1 < d) (hs2d : s2 < d) (hzd : z < d) (hsz : d + 5 < a.tmps.size) (hs1 : a.tmps[s1]? = some p1) (hs2 : a.tmps[s2]? = some p2) (hb : a.tmps[m]? = some (.bool b))
    (hf1 : (Instr.fieldAt T p1 j).run P w = .ok q1 w) (hf2 : (Instr.fieldAt T p2 j).run P w = .ok q2 w) (hl1 : (Instr.loadAt t1 q1).run P w = .ok x w) (hl2 : (Instr.loadAt t1 q2).run P w = .ok y w)
    (hd1 : d + 1 = d1') (hd3 : d + 3 = d3')
    (hcall : ∀ a' : Act, a'.tmps.getD d1' undef = x → a'.tmps.getD d3' undef = y → (execOp a'.eval o5).run P w = .ok (.enter f #[x, y]) w) (hc : Calls P f #[x, y] w R) (hR : ∀ e w', R e w' → e = .returned (.bool r) ∧ S w') (hS : S w)
    (hK : ∀ (a' : Act) (w' : World), a'.defers = a.defers → a'.tmps.size = a.tmps.size → (∀ i, i < d → i ≠ z → a'.tmps[i]? = a.tmps[i]?) → a'.tmps[z]? = some (.bool (b && r)) → S w' → wpList P ops Q rest a' w') :
    wpList P ops Q (o1 :: o2 :: o3 :: o4 :: o5 :: o6 :: o7 :: rest) a w := by
  subst hd1 hd3
  simp only [List.cons.injEq, and_true] at hd hg ho
  obtain ⟨d1, d2, d3, d4, d5, d6, d7⟩ := hd
  obtain ⟨g1, g2, g3, g4, g5, g6, g7⟩ := hg
  obtain ⟨e1, e2, e3, e4, e6, e7⟩ := ho
  have Y : ∀ a' : Act, a'.tmps[m]? = some (.bool b) → yielded ops a'.tmps g = some b := fun a' h => yield_of hm h
  cases b
  · refine wp_n g1 (Y _ hb) (by simp) ?_
    rw [d1]
    refine wp_n g2 (Y _ (by rw [put_other (by omega)]; exact hb)) (by simp) ?_
    rw [d2]
    refine wp_n g3 (Y _ (by rw [put_other (by omega), put_other (by omega)]; exact hb)) (by simp) ?_
    rw [d3]
    refine wp_n g4 (Y _ (by rw [put_other (by omega), put_other (by omega), put_other (by omega)]; exact hb)) (by simp) ?_
    rw [d4]
    refine wp_n g5 (Y _ (by rw [put_other (by omega), put_other (by omega), put_other (by omega), put_other (by omega)]; exact hb)) (by simp) ?_
    rw [d5]
    have hb5 : (((((a.put (some d) undef).put (some (d + 1)) undef).put (some (d + 2)) undef).put (some (d + 3)) undef).put (some (d + 4)) undef).tmps[m]? = some (.bool false) := by
      rw [put_other (by omega), put_other (by omega), put_other (by omega), put_other (by omega), put_other (by omega)]; exact hb
    refine wp_u (v := .bool false) g6 (by unfold execOp; rw [e6]; dsimp only; rw [eval_tmp hb5]; rfl) ?_
    rw [d6]
    refine wp_u (v := .bool false) g7 (by unfold execOp; rw [e7]; dsimp only; rw [eval_tmp (put_same (by (try simp only [put_size]); omega) _)]; rfl) ?_
    rw [d7]
    refine hK _ _ (by simp only [put_defers]) (by simp only [put_size]) (fun i hi hz => ?_) (by rw [put_same (by (try simp only [put_size]); omega)]; rfl) hS
    rw [put_other (by omega), put_other (by omega), put_other (by omega), put_other (by omega), put_other (by omega), put_other (by omega), put_other (by omega)]
  · refine wp_g (v := q1) g1 (Y _ hb) (w' := w) (by unfold execOp; rw [e1]; dsimp only; rw [eval_tmp hs1, Sem.run_bind, hf1]; rfl) ?_
    rw [d1]
    refine wp_g (v := x) g2 (Y _ (by rw [put_other (by omega)]; exact hb)) (w' := w) (by unfold execOp; rw [e2]; dsimp only; rw [eval_tmp (put_same (by (try simp only [put_size]); omega) _), Sem.run_bind, hl1]; rfl) ?_
    rw [d2]
    have hs2' : ((a.put (some d) q1).put (some (d + 1)) x).tmps[s2]? = some p2 := by rw [put_other (by omega), put_other (by omega)]; exact hs2
    refine wp_g (v := q2) g3 (Y _ (by rw [put_other (by omega), put_other (by omega)]; exact hb)) (w' := w) (by unfold execOp; rw [e3]; dsimp only; rw [eval_tmp hs2', Sem.run_bind, hf2]; rfl) ?_
    rw [d3]
    refine wp_g (v := y) g4 (Y _ (by rw [put_other (by omega), put_other (by omega), put_other (by omega)]; exact hb)) (w' := w) (by unfold execOp; rw [e4]; dsimp only; rw [eval_tmp (put_same (by (try simp only [put_size]); omega) _), Sem.run_bind, hl2]; rfl) ?_
    rw [d4]
    have hx5 : ((((a.put (some d) q1).put (some (d + 1)) x).put (some (d + 2)) q2).put (some (d + 3)) y).tmps[d + 1]? = some x := by rw [put_other (by omega), put_other (by omega), put_same (by (try simp only [put_size]); omega)]
    have hy5 : ((((a.put (some d) q1).put (some (d + 1)) x).put (some (d + 2)) q2).put (some (d + 3)) y).tmps[d + 3]? = some y := by rw [put_same (by (try simp only [put_size]); omega)]
    refine wp_c g5 (Y _ (by rw [put_other (by omega), put_other (by omega), put_other (by omega), put_other (by omega)]; exact hb)) (hcall _ (getD_of hx5) (getD_of hy5)) hc (fun e w' he => ?_)
    obtain ⟨rfl, hS'⟩ := hR e w' he
    refine ⟨_, rfl, ?_⟩
    rw [d5]
    have hb5 : (((((a.put (some d) q1).put (some (d + 1)) x).put (some (d + 2)) q2).put (some (d + 3)) y).put (some (d + 4)) (.bool r)).tmps[m]? = some (.bool true) := by
      rw [put_other (by omega), put_other (by omega), put_other (by omega), put_other (by omega), put_other (by omega)]; exact hb
    refine wp_u (v := .bool r) g6 (w' := w') (by unfold execOp; rw [e6]; dsimp only; rw [eval_tmp hb5, eval_tmp (put_same (by (try simp only [put_size]); omega) _)]; rfl) ?_
    rw [d6]
    refine wp_u (v := .bool r) g7 (w' := w') (by unfold execOp; rw [e7]; dsimp only; rw [eval_tmp (put_same (by (try simp only [put_size]); omega) _)]; rfl) ?_
    rw [d7]
    refine hK _ _ (by simp only [put_defers]) (by simp only [put_size]) (fun i hi hz => ?_) (by rw [put_same (by (try simp only [put_size]); omega)]; rfl) hS'
    rw [put_other (by omega), put_other (by omega), put_other (by omega), put_other (by omega), put_other (by omega), put_other (by omega), put_other (by omega)]
end
end Go.Proofs.Ytkgbkgonlopciaa

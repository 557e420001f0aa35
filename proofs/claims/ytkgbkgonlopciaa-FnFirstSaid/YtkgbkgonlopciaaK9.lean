/- Words for memory, ninth part: rows of options, segments. -/
import Derived.Test.YtkgbkgonlopciaaK6
import Derived.Test.YtkgbkgonlopciaaK3
import Derived.Test.YtkgbkgonlopciaaP2
import Derived.Test.YtkgbkgonlopciaaF4
namespace Go.Proofs.Ytkgbkgonlopciaa
open Go.RowKit
set_option linter.unusedVariables false
set_option linter.unusedSimpArgs false

/-- the cells of a row of options -/
def flatO : List OD → List Value → List Value
  | o :: os, iv :: ivs => voC o iv ++ flatO os ivs
  | _, _ => []
theorem voC_len (o : OD) (iv : Value) : (voC o iv).length = 14 := rfl
theorem flatO_len : ∀ (os : List OD) (ivs : List Value), os.length = ivs.length → (flatO os ivs).length = os.length * 14
  | [], [], _ => rfl
  | o :: os, iv :: ivs, h => by
    unfold flatO
    rw [List.length_append, voC_len, flatO_len os ivs (by simpa using h), List.length_cons]
    omega
theorem flatO_get : ∀ (os : List OD) (ivs : List Value) (k : Nat) (o : OD) (iv : Value), os[k]? = some o → ivs[k]? = some iv → ∀ j, j < 14 → (flatO os ivs)[k * 14 + j]? = (voC o iv)[j]?
  | [], _, k, o, iv, h, _, j, hj => by cases h
  | _ :: _, [], k, o, iv, _, h, j, hj => by cases h
  | o1 :: os, iv1 :: ivs, 0, o, iv, h, h2, j, hj => by
    simp only [List.getElem?_cons_zero, Option.some.injEq] at h h2
    subst h; subst h2
    unfold flatO
    rw [Nat.zero_mul, Nat.zero_add, List.getElem?_append_left (by rw [voC_len]; exact hj)]
  | o1 :: os, iv1 :: ivs, k + 1, o, iv, h, h2, j, hj => by
    simp only [List.getElem?_cons_succ] at h h2
    unfold flatO
    rw [List.getElem?_append_right (by rw [voC_len]; omega), voC_len, show (k + 1) * 14 + j - 14 = k * 14 + j by omega]
    exact flatO_get os ivs k o iv h h2 j hj
theorem flatO_append : ∀ (os : List OD) (ivs : List Value) (os' : List OD) (ivs' : List Value), os.length = ivs.length → flatO (os ++ os') (ivs ++ ivs') = flatO os ivs ++ flatO os' ivs'
  | [], [], _, _, _ => rfl
  | o :: os, iv :: ivs, os', ivs', h => by
    show voC o iv ++ flatO (os ++ os') (ivs ++ ivs') = (voC o iv ++ flatO os ivs) ++ flatO os' ivs'
    rw [flatO_append os ivs os' ivs' (by simpa using h), List.append_assoc]
theorem flatO_one (o : OD) (iv : Value) : flatO [o] [iv] = voC o iv := by unfold flatO; rw [show flatO [] [] = [] from rfl, List.append_nil]

/-- these cells lie in block b from o on -/
def Bo (w : World) (b o : Nat) (cs : List Value) : Prop := b < w.heap.size ∧ ∀ j v, cs[j]? = some v → w.cell? ⟨b, o + j, none⟩ = some v
theorem Bo.below {w w' : World} {b o : Nat} {cs : List Value} (h : Bo w b o cs) (hb : Below w.heap.size w w') : Bo w' b o cs :=
  ⟨Nat.lt_of_lt_of_le h.1 hb.size, fun j v hj => (hb.cell (p := ⟨b, o + j, none⟩) h.1).trans (h.2 j v hj)⟩
theorem Bo.drew {w : World} {b o : Nat} {cs : List Value} (h : Bo w b o cs) : Bo w.drew b o cs := h
theorem Bo.alloc {w : World} {b o : Nat} {cs : List Value} (h : Bo w b o cs) (x : Obj) : Bo (w.alloc x) b o cs := h.below ((Below.refl _ _).alloc (Nat.le_refl _) x)

/-- a row of options that is only read -/
structure RdO (w : World) (v : Value) (n : Nat) (os : List OD) (ivs : List Value) : Prop where
  lo : os.length = n
  li : ivs.length = n
  row : Rd w 14 v n (flatO os ivs)
  ids : ∀ (k : Nat) (o : OD) (iv : Value), os[k]? = some o → ivs[k]? = some iv → Rd w 1 iv o.ids.length (o.ids.map vn)
/-- a row of options in memory of its own -/
structure ObO (w : World) (B : Nat) (v : Value) (n : Nat) (os : List OD) (ivs : List Value) : Prop where
  lo : os.length = n
  li : ivs.length = n
  row : Obs w B 14 v n (flatO os ivs)
  ids : ∀ (k : Nat) (o : OD) (iv : Value), os[k]? = some o → ivs[k]? = some iv → Obs w B 1 iv o.ids.length (o.ids.map vn)
theorem ObO.rd {w : World} {B n : Nat} {v : Value} {os : List OD} {ivs : List Value} (h : ObO w B v n os ivs) : RdO w v n os ivs :=
  ⟨h.lo, h.li, h.row.rd, fun k o iv ho hi => (h.ids k o iv ho hi).rd⟩
theorem RdO.below {w w' : World} {n : Nat} {v : Value} {os : List OD} {ivs : List Value} (h : RdO w v n os ivs) (hb : Below w.heap.size w w') : RdO w' v n os ivs :=
  ⟨h.lo, h.li, h.row.below hb, fun k o iv ho hi => (h.ids k o iv ho hi).below hb⟩
theorem ObO.below {w w' : World} {B n : Nat} {v : Value} {os : List OD} {ivs : List Value} (h : ObO w B v n os ivs) (hb : Below w.heap.size w w') : ObO w' B v n os ivs :=
  ⟨h.lo, h.li, h.row.below hb, fun k o iv ho hi => (h.ids k o iv ho hi).below hb⟩
theorem ObO.mono {w : World} {B B' n : Nat} {v : Value} {os : List OD} {ivs : List Value} (h : ObO w B v n os ivs) (hB : B' ≤ B) : ObO w B' v n os ivs :=
  ⟨h.lo, h.li, h.row.mono hB, fun k o iv ho hi => (h.ids k o iv ho hi).mono hB⟩
theorem ObO.far {w : World} {B n : Nat} {v : Value} {os : List OD} {ivs : List Value} {p : Addr} (h : ObO w B v n os ivs) (hp : p.block < B) (u : Value) : ObO (w.setCell p u) B v n os ivs :=
  ⟨h.lo, h.li, h.row.far hp u, fun k o iv ho hi => (h.ids k o iv ho hi).far hp u⟩
theorem ObO.nil (w : World) (B : Nat) : ObO w B (.slice none 0 0) 0 [] [] := ⟨rfl, rfl, Obs.nil _ _ _, fun k o iv ho => by cases ho⟩
theorem RdO.drew {w : World} {n : Nat} {v : Value} {os : List OD} {ivs : List Value} (h : RdO w v n os ivs) : RdO w.drew v n os ivs := h.below (Below.refl _ _).drew
theorem RdO.alloc {w : World} {n : Nat} {v : Value} {os : List OD} {ivs : List Value} (h : RdO w v n os ivs) (o : Obj) : RdO (w.alloc o) v n os ivs := h.below ((Below.refl _ _).alloc (Nat.le_refl _) o)
theorem RdO.shape {w : World} {n : Nat} {v : Value} {os : List OD} {ivs : List Value} (h : RdO w v n os ivs) : ∃ A cap, v = .slice A n cap ∧ n ≤ maxLen := h.row.shape
theorem RdO.full {w : World} {n : Nat} {v : Value} {os : List OD} {ivs : List Value} (h : RdO w v n os ivs) (h0 : 0 < n) : ∃ b off cap, v = .slice (some ⟨b, off, none⟩) n cap := by
  obtain ⟨b, off, cap, e, _⟩ := h.row.full h0
  exact ⟨b, off, cap, e⟩
/-- the k-th option -/
theorem RdO.at_ {w : World} {b off n cap k : Nat} {os : List OD} {ivs : List Value} (h : RdO w (.slice (some ⟨b, off, none⟩) n cap) n os ivs) (hk : k < n) :
    ∃ o iv, os[k]? = some o ∧ ivs[k]? = some iv ∧ Bo w b (off + k * 14) (voC o iv) ∧ Rd w 1 iv o.ids.length (o.ids.map vn) := by
  have h1 : k < os.length := by rw [h.lo]; exact hk
  have h2 : k < ivs.length := by rw [h.li]; exact hk
  refine ⟨os[k], ivs[k], List.getElem?_eq_getElem h1, List.getElem?_eq_getElem h2, ?_, h.ids k _ _ (List.getElem?_eq_getElem h1) (List.getElem?_eq_getElem h2)⟩
  obtain ⟨b', off', cap', e, hb, _, hc⟩ := h.row.full (by omega)
  simp only [Value.slice.injEq, Option.some.injEq, Addr.mk.injEq] at e
  obtain ⟨⟨rfl, rfl, _⟩, _, _⟩ := e
  refine ⟨hb, fun j v hj => ?_⟩
  have hj14 : j < 14 := by
    obtain ⟨hlt, _⟩ := List.getElem?_eq_some_iff.1 hj
    exact hlt
  rw [Nat.add_assoc]
  exact hc _ _ ((flatO_get os ivs k _ _ (List.getElem?_eq_getElem h1) (List.getElem?_eq_getElem h2) j hj14).trans hj)
theorem RdO.shape1 {w : World} {iv : Value} {o : OD} (h : Rd w 1 iv o.ids.length (o.ids.map vn)) : ∃ A cp, iv = .slice A o.ids.length cp := by
  obtain ⟨A, cp, e, _⟩ := h.shape
  exact ⟨A, cp, e⟩
theorem wpl_optLA {ops : Array Oper} {rest : List Oper} {op : Oper} {a : Act} {w : World} {Q : Exit → Act → World → Prop} {x : Operand} {b p : Nat} {o : OD} {iv : Value} (hgd : op.guard = none) (ho : op.op = .load 24 x)
    (hx : a.eval x = .pointer (some ⟨b, p, none⟩)) (h : Bo w b p (voC o iv)) (hK : wpList Try.prog ops Q rest (a.put op.dst (vo o iv)) w) : wpList Try.prog ops Q (op :: rest) a w :=
  wpList_load_mid hgd 24 x ho b p hx (voC o iv) _ (fun j v hj => h.2 j v hj) Try.underlying24 rfl (by kernel_rfl) hK
theorem yields_optLA {ops : Array Oper} {S : World → Prop} {op : Oper} {a : Act} {x : Operand} {b p : Nat} {o : OD} {iv : Value} (hw : Region.wanted op (yielded ops a.tmps) = true) (ho : op.op = .load 24 x)
    (hx : a.eval x = .pointer (some ⟨b, p, none⟩)) (h : ∀ w, S w → Bo w b p (voC o iv)) : YieldsIf Try.prog ops S op (vo o iv) a :=
  yieldsIf_load_mid hw 24 x ho b p hx (voC o iv) _ (fun w hw j v hj => (h w hw).2 j v hj) Try.underlying24 rfl (by kernel_rfl)
theorem wpl_optA {ops : Array Oper} {rest : List Oper} {op : Oper} {a : Act} {w : World} {Q : Exit → Act → World → Prop} {x : Operand} {b p : Nat} {o : OD} {iv : Value} (hgd : op.guard = none) (ho : op.op = .load 27 x)
    (hx : a.eval x = .pointer (some ⟨b, p, none⟩)) (h : Bo w b p (voC o iv)) (hK : wpList Try.prog ops Q rest (a.put op.dst (vo o iv)) w) : wpList Try.prog ops Q (op :: rest) a w :=
  wpList_load_mid hgd 27 x ho b p hx (voC o iv) _ (fun j v hj => h.2 j v hj) Try.underlying27 rfl (by kernel_rfl) hK
theorem yields_optA {ops : Array Oper} {S : World → Prop} {op : Oper} {a : Act} {x : Operand} {b p : Nat} {o : OD} {iv : Value} (hw : Region.wanted op (yielded ops a.tmps) = true) (ho : op.op = .load 27 x)
    (hx : a.eval x = .pointer (some ⟨b, p, none⟩)) (h : ∀ w, S w → Bo w b p (voC o iv)) : YieldsIf Try.prog ops S op (vo o iv) a :=
  yieldsIf_load_mid hw 27 x ho b p hx (voC o iv) _ (fun w hw j v hj => (h w hw).2 j v hj) Try.underlying27 rfl (by kernel_rfl)

/-- how much the options hold -/
def sumO : List OD → Nat
  | [] => 0
  | o :: os => szO o + sumO os
theorem sumO_append : ∀ (a b : List OD), sumO (a ++ b) = sumO a + sumO b
  | [], b => by simp [sumO]
  | o :: a, b => by show szO o + sumO (a ++ b) = (szO o + sumO a) + sumO b; rw [sumO_append a b]; omega
theorem sumO_step {os : List OD} {k : Nat} {o : OD} (h : os[k]? = some o) : sumO (os.take (k + 1)) = sumO (os.take k) + szO o := by
  obtain ⟨hk, rfl⟩ := List.getElem?_eq_some_iff.1 h
  rw [List.take_succ_eq_append_getElem hk, sumO_append]
  simp [sumO]
theorem sumO_take : ∀ (os : List OD) (k : Nat), sumO (os.take k) ≤ sumO os
  | [], k => by simp [sumO]
  | o :: os, 0 => by simp [sumO]
  | o :: os, k + 1 => by rw [List.take_succ_cons]; unfold sumO; have := sumO_take os k; omega
theorem sumO_le {os : List OD} {k : Nat} {o : OD} (h : os[k]? = some o) : sumO (os.take k) + szO o ≤ sumO os := by
  rw [← sumO_step h]; exact sumO_take os _
def szX (x : SD) : Nat := x.ops.length + sumO x.ops + x.da.size
def SD.wf (x : SD) : Prop := (i64R x.fr ∧ i64R x.tt ∧ i64R x.po ∧ i64R x.pe ∧ i64R x.sq ∧ i64R x.ak ∧ i64R x.fg) ∧ x.da.size ≤ maxLen ∧ ∀ o ∈ x.ops, o.wf
/-- a segment as a value; ov: the slice of its options -/
def vxC (x : SD) (ov : Value) : List Value := [.int .i64 x.fr, .int .i64 x.tt, .int .i64 x.po, .int .i64 x.pe, .int .i64 x.sq, .int .i64 x.ak, .int .i64 x.fg, ov, .string x.da]
def vx (x : SD) (ov : Value) : Value := .agg #[.int .i64 x.fr, .int .i64 x.tt, .int .i64 x.po, .int .i64 x.pe, .int .i64 x.sq, .int .i64 x.ak, .int .i64 x.fg, ov, .string x.da]
theorem vx_vxC (x : SD) (ov : Value) : vx x ov = .agg (vxC x ov).toArray := rfl
end Go.Proofs.Ytkgbkgonlopciaa

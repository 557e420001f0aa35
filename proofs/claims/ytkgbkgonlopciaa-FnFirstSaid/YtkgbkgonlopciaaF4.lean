/- Arguments that are options, opened to their cells. -/
import Derived.Test.YtkgbkgonlopciaaF3
import Derived.Test.YtkgbkgonlopciaaP1
import Derived.Test.YtkgbkgonlopciaaM6
import Derived.OpenShut
namespace Go.Proofs.Ytkgbkgonlopciaa
open Go.ChangeShapes Go.WideShapes Go.ChangeAt Go.RowKit Go.Deep
set_option linter.unusedVariables false

section
variable {H : Type} {enc : TypeId × Value → H} {P : Program} {W : World} {sp : Nat → Bool} {hd : Bool}
/-- what kind of field: 1 int, 2 bool, 3 string, 4 []int -/
def fieldKind (P : Program) (t : TypeId) : Nat := match P.underlying t with
  | some (.int .i64) => 1
  | some .bool => 2
  | some .string => 3
  | some (.slice e) => (match P.underlying e with | some (.int .i64) => if P.cellsOf e = 1 then 4 else 5 | _ => 5)
  | _ => 0
theorem fk1 {t : TypeId} (h : fieldKind P t = 1) : P.underlying t = some (.int .i64) := by
  unfold fieldKind at h
  split at h <;> first | assumption | (cases h; done) | (split at h <;> first | (cases h; done) | (split at h <;> cases h))
theorem fk2 {t : TypeId} (h : fieldKind P t = 2) : P.underlying t = some .bool := by
  unfold fieldKind at h
  split at h <;> first | assumption | (cases h; done) | (split at h <;> first | (cases h; done) | (split at h <;> cases h))
theorem fk3 {t : TypeId} (h : fieldKind P t = 3) : P.underlying t = some .string := by
  unfold fieldKind at h
  split at h <;> first | assumption | (cases h; done) | (split at h <;> first | (cases h; done) | (split at h <;> cases h))
theorem fk4 {t : TypeId} (h : fieldKind P t = 4) : ∃ e, P.underlying t = some (.slice e) ∧ P.underlying e = some (.int .i64) ∧ P.cellsOf e = 1 := by
  unfold fieldKind at h
  split at h
  · cases h
  · cases h
  · cases h
  · rename_i e he
    split at h
    · rename_i hi
      split at h
      · rename_i hc; exact ⟨e, he, hi, hc⟩
      · cases h
    · cases h
  · cases h
def kinds (P : Program) (fs : Array Field) : List Nat := fs.toList.map fun f => fieldKind P f.type
theorem kinds_at {fs : Array Field} {l : List Nat} (h : kinds P fs = l) {j k : Nat} (hj : l[j]? = some k) : ∃ f, fs[j]? = some f ∧ fieldKind P f.type = k := by
  subst h
  unfold kinds at hj
  rw [List.getElem?_map] at hj
  cases hf : fs.toList[j]? with
  | none => rw [hf] at hj; cases hj
  | some f => rw [hf] at hj; simp at hj; exact ⟨f, by simpa using hf, hj⟩
def i64R (x : Int) : Prop := -9223372036854775808 ≤ x ∧ x ≤ 9223372036854775807
theorem i64R_of {x : Int} (h : (Lit.int .i64 x).wf = true) : i64R x := by
  have := bounds_i64 h
  unfold i64R
  omega
/-- a slice of integers out of a cell -/
theorem rd_ints_cell {t e : TypeId} {fuel : Nat} {v : Value} {x : DataW H × List MemPlace} (ht : P.underlying t = some (.slice e)) (he : P.underlying e = some (.int .i64)) (hc : P.cellsOf e = 1)
    (hf : DataW.trod enc P W 0 sp hd fuel t [v] = some x) : ∃ (n : Nat) (xs : List Int), Rd W 1 v n (xs.map vn) ∧ ∀ x ∈ xs, i64R x := by
  rcases open_ints ht he hc hf with ⟨hcs, _⟩ | ⟨a, len, cap, zs, hcs, _, hl, hm, hz, _, hcell, hwz⟩
  · simp at hcs
    subst hcs
    exact ⟨0, [], ⟨by simp, .inl ⟨_, _, rfl, rfl⟩⟩, by simp⟩
  · simp at hcs
    subst hcs
    have hlz : len ≤ zs.length := by rw [hz]; split <;> omega
    by_cases h0 : len = 0
    · subst h0
      exact ⟨0, [], ⟨by simp, .inl ⟨_, _, rfl, rfl⟩⟩, by simp⟩
    · obtain ⟨b, off, rfl, hcc⟩ := ints_at hcell (by omega)
      have hblk : b < W.heap.size := block_lt_of_cell (hcc 0 (by omega))
      refine ⟨len, zs.take len, ⟨by simp; omega, .inr ⟨b, off, cap, rfl, hblk, hl, hm, fun j u hu => ?_⟩⟩, fun x hx => i64R_of (hwz x (List.mem_of_mem_take hx))⟩
      have hj : j < len := by
        have := (List.getElem?_eq_some_iff.1 hu).1
        simp at this
        omega
      rw [hcc j (by omega), ← hu, List.getElem?_map, List.getElem?_take_of_lt hj, List.getD_eq_getElem?_getD, List.getElem?_eq_getElem (by omega)]
      rfl
/-- all the numbers of an option lie in int's range -/
def OD.wf (o : OD) : Prop := (i64R o.k ∧ i64R o.id ∧ i64R o.ad ∧ i64R o.po ∧ i64R o.to ∧ i64R o.no ∧ i64R o.se ∧ i64R o.su ∧ i64R o.le ∧ i64R o.ac) ∧ (o.ke.size ≤ maxLen ∧ o.ma.size ≤ maxLen) ∧ ∀ x ∈ o.ids, i64R x
theorem fld_int {fs : Array Field} {l : List Nat} {cs : List Value} {n : Nat} (hk : kinds P fs = l) (hfld : ∀ (j : Nat) (f : Field), fs[j]? = some f → ∃ v y, cs[j]? = some v ∧ DataW.trod enc P W 0 sp hd n f.type [v] = some y) (j : Nat) (hj : l[j]? = some 1) :
    ∃ x : Int, cs[j]? = some (.int .i64 x) ∧ i64R x := by
  obtain ⟨f, hf, hk1⟩ := kinds_at hk hj
  obtain ⟨v, y, hc, ht⟩ := hfld j f hf
  obtain ⟨x, hx, _, hw⟩ := DataW.trod_int (fk1 hk1) ht
  simp only [List.cons.injEq, and_true] at hx
  subst hx
  exact ⟨x, hc, i64R_of hw⟩
theorem fld_bool {fs : Array Field} {l : List Nat} {cs : List Value} {n : Nat} (hk : kinds P fs = l) (hfld : ∀ (j : Nat) (f : Field), fs[j]? = some f → ∃ v y, cs[j]? = some v ∧ DataW.trod enc P W 0 sp hd n f.type [v] = some y) (j : Nat) (hj : l[j]? = some 2) :
    ∃ x : Bool, cs[j]? = some (.bool x) := by
  obtain ⟨f, hf, hk1⟩ := kinds_at hk hj
  obtain ⟨v, y, hc, ht⟩ := hfld j f hf
  obtain ⟨x, hx, _⟩ := DataW.trod_bool (fk2 hk1) ht
  simp only [List.cons.injEq, and_true] at hx
  subst hx
  exact ⟨x, hc⟩
theorem fld_string {fs : Array Field} {l : List Nat} {cs : List Value} {n : Nat} (hk : kinds P fs = l) (hfld : ∀ (j : Nat) (f : Field), fs[j]? = some f → ∃ v y, cs[j]? = some v ∧ DataW.trod enc P W 0 sp hd n f.type [v] = some y) (j : Nat) (hj : l[j]? = some 3) :
    ∃ x : ByteArray, cs[j]? = some (.string x) ∧ x.size ≤ maxLen := by
  obtain ⟨f, hf, hk1⟩ := kinds_at hk hj
  obtain ⟨v, y, hc, ht⟩ := hfld j f hf
  obtain ⟨x, hx, _, hw⟩ := DataW.trod_string (fk3 hk1) ht
  simp only [List.cons.injEq, and_true] at hx
  subst hx
  exact ⟨x, hc, hw⟩
theorem fld_ints {fs : Array Field} {l : List Nat} {cs : List Value} {n : Nat} (hk : kinds P fs = l) (hfld : ∀ (j : Nat) (f : Field), fs[j]? = some f → ∃ v y, cs[j]? = some v ∧ DataW.trod enc P W 0 sp hd n f.type [v] = some y) (j : Nat) (hj : l[j]? = some 4) :
    ∃ (v : Value) (m : Nat) (xs : List Int), cs[j]? = some v ∧ Rd W 1 v m (xs.map vn) ∧ ∀ x ∈ xs, i64R x := by
  obtain ⟨f, hf, hk1⟩ := kinds_at hk hj
  obtain ⟨v, y, hc, ht⟩ := hfld j f hf
  obtain ⟨e, h1, h2, h3⟩ := fk4 hk1
  obtain ⟨m, xs, hr, hw⟩ := rd_ints_cell h1 h2 h3 ht
  exact ⟨v, m, xs, hc, hr, hw⟩
/-- the cells of an option -/
def voL (o : OD) (iv : Value) : List Value := [.int .i64 o.k, .int .i64 o.id, .int .i64 o.ad, .int .i64 o.po, .int .i64 o.to, .int .i64 o.no, .int .i64 o.se, .int .i64 o.su, .int .i64 o.le, .int .i64 o.ac, .bool o.fl, .string o.ke, .string o.ma, iv]
def optKinds : List Nat := [1, 1, 1, 1, 1, 1, 1, 1, 1, 1, 2, 3, 3, 4]
theorem opt_cells {t : TypeId} {fs : Array Field} {fuel : Nat} {cs : List Value} {x : DataW H × List MemPlace} (he : P.underlying t = some (.struct fs)) (hone : oneCellFields P fs = true) (hC : P.cellsOf t = fs.size) (hk : kinds P fs = optKinds)
    (h : DataW.trod enc P W 0 sp hd fuel t cs = some x) : ∃ (o : OD) (iv : Value) (n : Nat), cs = voL o iv ∧ Rd W 1 iv n (o.ids.map vn) ∧ o.wf := by
  obtain ⟨hlen, n, hfld⟩ := struct_cells he hone hC h
  have h14 : cs.length = 14 := by
    rw [hlen]
    have := congrArg List.length hk
    unfold kinds optKinds at this
    simpa using this
  obtain ⟨x0, c0, w0⟩ := fld_int hk hfld 0 rfl
  obtain ⟨x1, c1, w1⟩ := fld_int hk hfld 1 rfl
  obtain ⟨x2, c2, w2⟩ := fld_int hk hfld 2 rfl
  obtain ⟨x3, c3, w3⟩ := fld_int hk hfld 3 rfl
  obtain ⟨x4, c4, w4⟩ := fld_int hk hfld 4 rfl
  obtain ⟨x5, c5, w5⟩ := fld_int hk hfld 5 rfl
  obtain ⟨x6, c6, w6⟩ := fld_int hk hfld 6 rfl
  obtain ⟨x7, c7, w7⟩ := fld_int hk hfld 7 rfl
  obtain ⟨x8, c8, w8⟩ := fld_int hk hfld 8 rfl
  obtain ⟨x9, c9, w9⟩ := fld_int hk hfld 9 rfl
  obtain ⟨x10, c10⟩ := fld_bool hk hfld 10 rfl
  obtain ⟨x11, c11, w11⟩ := fld_string hk hfld 11 rfl
  obtain ⟨x12, c12, w12⟩ := fld_string hk hfld 12 rfl
  obtain ⟨iv, m, xs, c13, hr, w13⟩ := fld_ints hk hfld 13 rfl
  refine ⟨⟨x0, x1, x2, x3, x4, x5, x6, x7, x8, x9, x10, x11, x12, xs⟩, iv, m, ?_, hr, ⟨⟨w0, w1, w2, w3, w4, w5, w6, w7, w8, w9⟩, ⟨w11, w12⟩, w13⟩⟩
  unfold voL
  match cs, h14 with
  | [a0, a1, a2, a3, a4, a5, a6, a7, a8, a9, a10, a11, a12, a13], _ =>
    simp only [List.getElem?_cons_zero, List.getElem?_cons_succ, Option.some.injEq] at c0 c1 c2 c3 c4 c5 c6 c7 c8 c9 c10 c11 c12 c13
    rw [c0, c1, c2, c3, c4, c5, c6, c7, c8, c9, c10, c11, c12, c13]
/-- an argument that is an option -/
theorem rd_opt {t : TypeId} {fs : Array Field} {r : Reach} {b0 : Nat} {v : Value} {d : DataW H} {ps : List MemPlace} (he : P.underlying t = some (.struct fs)) (hone : oneCellFields P fs = true) (hC : P.cellsOf t = fs.size) (hk : kinds P fs = optKinds)
    (hv : Value.okWide P W r b0 t v) (h : DataW.Trod enc P W 0 sp hd t v d ps) : ∃ (o : OD) (iv : Value) (n : Nat), v = vo o iv ∧ Rd W 1 iv n (o.ids.map vn) ∧ o.wf := by
  obtain ⟨cs, rfl, _⟩ := okWide_struct he hv
  obtain ⟨fuel, hf⟩ := h
  obtain ⟨o, iv, n, hcs, hr, hw⟩ := opt_cells he hone hC hk hf
  refine ⟨o, iv, n, ?_, hr, hw⟩
  unfold vo
  congr 1
  apply Array.toList_inj.1
  exact hcs
end
end Go.Proofs.Ytkgbkgonlopciaa

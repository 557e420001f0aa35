/- Arguments that are structs, or slices of structs, opened to cells. -/
import Derived.Test.YtkgbkgonlopciaaF2
import Derived.Deep.Slices
import Derived.Deep.Fields
import Derived.ChangeArms
import Derived.ChangeMaps5
namespace Go.Proofs.Ytkgbkgonlopciaa
open Go.ChangeShapes Go.WideShapes Go.ChangeAt Go.RowKit Go.Deep
set_option linter.unusedVariables false

section
variable {H : Type} {enc : TypeId × Value → H} {P : Program} {W : World} {sp : Nat → Bool} {hd : Bool}
/-- the cells of a struct whose fields are one cell each, and what each reads as -/
theorem struct_cells {base : Nat} {t : TypeId} {fs : Array Field} {fuel : Nat} {cs : List Value} {x : DataW H × List MemPlace} (he : P.underlying t = some (.struct fs)) (hone : oneCellFields P fs = true) (hC : P.cellsOf t = fs.size)
    (h : DataW.trod enc P W base sp hd fuel t cs = some x) : cs.length = fs.size ∧ ∃ n, ∀ (j : Nat) (f : Field), fs[j]? = some f → ∃ v y, cs[j]? = some v ∧ DataW.trod enc P W base sp hd n f.type [v] = some y := by
  obtain ⟨ys, n, _, _, hlen, hyl, hf⟩ := DataW.trod_struct he h
  refine ⟨hlen.trans hC, n, fun j f hj => ?_⟩
  have hjl : j < fs.size := (Array.getElem?_eq_some_iff.1 hj).1
  obtain ⟨ho, hk⟩ := hone_of hone j f hj
  have h1 := hf j f hj
  rw [ho, hk, take1_drop cs j (.bool false) (by omega), List.getElem?_eq_getElem (by omega)] at h1
  exact ⟨cs.getD j (.bool false), _, by rw [List.getD_eq_getElem?_getD, List.getElem?_eq_getElem (by omega)]; rfl, h1⟩
/-- all the fields are integers -/
def intFields (P : Program) (fs : Array Field) : Bool := (List.range fs.size).all fun i => match fs[i]? with
  | some f => (match P.underlying f.type with | some (.int .i64) => true | _ => false)
  | none => false
theorem intFields_of {fs : Array Field} (h : intFields P fs = true) (j : Nat) (f : Field) (hj : fs[j]? = some f) : P.underlying f.type = some (.int .i64) := by
  have hlt : j < fs.size := (Array.getElem?_eq_some_iff.1 hj).1
  have := List.all_eq_true.1 h j (List.mem_range.2 hlt)
  simp only [hj] at this
  split at this
  · assumption
  · cases this
/-- an argument that is a slice of structs of integers, as a slice that is read -/
theorem rd_rows {t e : TypeId} {fs : Array Field} {r : Reach} {b0 : Nat} {v : Value} {d : DataW H} {ps : List MemPlace} (k : Nat) (hk : 0 < k)
    (ht : P.underlying t = some (.slice e)) (he : P.underlying e = some (.struct fs)) (hone : oneCellFields P fs = true) (hC : P.cellsOf e = k) (hs : fs.size = k) (hi : intFields P fs = true)
    (hv : Value.okWide P W r b0 t v) (h : DataW.Trod enc P W 0 sp hd t v d ps) : ∃ (n : Nat) (xs : List Int), Rd W k v n (xs.map vn) ∧ ∀ x ∈ xs, (Lit.int .i64 x).wf = true := by
  obtain ⟨a0, len, cap, rfl⟩ := okWide_slice ht hv
  obtain ⟨fuel, hf⟩ := h
  rcases open_slice ht hf with ⟨hcs, _⟩ | ⟨a, len', cap', m, n', D, Pl, hcs, _, hl, hm, hmm, _, hel⟩
  · simp [Value.cells] at hcs
    obtain ⟨rfl, rfl, rfl⟩ := hcs
    exact ⟨0, [], ⟨by simp, .inl ⟨_, _, rfl, rfl⟩⟩, by simp⟩
  · simp [Value.cells] at hcs
    obtain ⟨rfl, rfl, rfl⟩ := hcs
    have hlm : len ≤ m := by rw [hmm]; split <;> omega
    obtain ⟨X, hX⟩ := choose_lt (α := Int) (n := len * k) (p := fun q x => W.cell? (a.add q) = some (.int .i64 x) ∧ (Lit.int .i64 x).wf = true) (fun q hq => by
      have hi1 : q / k < m := Nat.lt_of_lt_of_le ((Nat.div_lt_iff_lt_mul hk).2 hq) hlm
      obtain ⟨cs', hc, ht'⟩ := hel (q / k) hi1
      rw [hC] at hc
      obtain ⟨_, hcl, hat⟩ := World.cells?_some hc
      obtain ⟨hlen, n'', hfld⟩ := struct_cells he hone (hC.trans hs.symm) ht'
      have hj : q % k < fs.size := by rw [hs]; exact Nat.mod_lt _ hk
      obtain ⟨u, y, hu, hty⟩ := hfld (q % k) _ (Array.getElem?_eq_getElem hj)
      obtain ⟨x, hx, _, hw⟩ := DataW.trod_int (intFields_of hi _ _ (Array.getElem?_eq_getElem hj)) hty
      simp only [List.cons.injEq, and_true] at hx
      subst hx
      refine ⟨x, ?_, hw⟩
      have h2 := hat (q % k) (Nat.mod_lt _ hk)
      rw [hu, add_add, show q / k * k + q % k = q by rw [Nat.mul_comm]; exact Nat.div_add_mod q k] at h2
      exact h2)
    by_cases h0 : len = 0
    · subst h0
      exact ⟨0, [], ⟨by simp, .inl ⟨_, _, rfl, rfl⟩⟩, by simp⟩
    · have hxl : ((List.range (len * k)).map X).length = len * k := by simp
      have hpos : 0 < len * k := Nat.mul_pos (by omega) hk
      have hget : ∀ i, i < len * k → ((List.range (len * k)).map X).getD i 0 = X i := fun i hi => by simp [List.getD_eq_getElem?_getD, hi]
      obtain ⟨b, off, rfl, hcc⟩ := ints_at (w := W) (a := a) (k := .i64) (zs := (List.range (len * k)).map X) (fun i hi => by rw [hxl] at hi; rw [hget i hi]; exact (hX i hi).1) (by rw [hxl]; exact hpos)
      have hblk : b < W.heap.size := block_lt_of_cell (hcc 0 (by rw [hxl]; exact hpos))
      refine ⟨len, (List.range (len * k)).map X, ⟨by simp, .inr ⟨b, off, cap, rfl, hblk, hl, hm, fun j u hu => ?_⟩⟩, fun x hx => ?_⟩
      · have hj : j < len * k := by
          have := (List.getElem?_eq_some_iff.1 hu).1
          simpa using this
        rw [hcc j (by rw [hxl]; exact hj), ← hu, List.getElem?_map, List.getD_eq_getElem?_getD, List.getElem?_eq_getElem (by rw [hxl]; exact hj)]
        rfl
      · obtain ⟨i, hi, rfl⟩ := List.mem_map.1 hx
        exact (hX i (List.mem_range.1 hi)).2
end
end Go.Proofs.Ytkgbkgonlopciaa

/- Arguments that are segments, opened to their cells. -/
import Derived.Test.YtkgbkgonlopciaaF4
import Derived.Test.YtkgbkgonlopciaaK9
namespace Go.Proofs.Ytkgbkgonlopciaa
open Go.ChangeShapes Go.WideShapes Go.ChangeAt Go.RowKit Go.Deep
set_option linter.unusedVariables false

section
variable {H : Type} {enc : TypeId × Value → H} {P : Program} {W : World} {sp : Nat → Bool} {hd : Bool}
theorem flatO_cell : ∀ (os : List OD) (ivs : List Value), os.length = ivs.length → ∀ j, j < os.length * 14 → ∃ o iv, os[j / 14]? = some o ∧ ivs[j / 14]? = some iv ∧ (flatO os ivs)[j]? = (voC o iv)[j % 14]? := by
  intro os ivs hl j hj
  have h1 : j / 14 < os.length := by omega
  have h2 : j / 14 < ivs.length := by omega
  refine ⟨os[j / 14], ivs[j / 14], List.getElem?_eq_getElem h1, List.getElem?_eq_getElem h2, ?_⟩
  have := flatO_get os ivs (j / 14) _ _ (List.getElem?_eq_getElem h1) (List.getElem?_eq_getElem h2) (j % 14) (Nat.mod_lt _ (by omega))
  rwa [show j / 14 * 14 + j % 14 = j by omega] at this
instance : Inhabited OD := ⟨OD.new 0 []⟩
/-- a slice of options out of a cell -/
theorem rd_opts_cell {t e : TypeId} {fs : Array Field} {fuel : Nat} {v : Value} {x : DataW H × List MemPlace} (ht : P.underlying t = some (.slice e)) (he : P.underlying e = some (.struct fs)) (hone : oneCellFields P fs = true) (hC : P.cellsOf e = fs.size) (hk : kinds P fs = optKinds)
    (hf : DataW.trod enc P W 0 sp hd fuel t [v] = some x) : ∃ (n : Nat) (os : List OD) (ivs : List Value), RdO W v n os ivs ∧ ∀ o ∈ os, o.wf := by
  have h14 : fs.size = 14 := by
    have := congrArg List.length hk
    unfold kinds optKinds at this
    simpa using this
  rcases open_slice ht hf with ⟨hcs, _⟩ | ⟨a, len, cap, m, n', D, Pl, hcs, _, hl, hm, hmm, _, hel⟩
  · simp at hcs
    subst hcs
    exact ⟨0, [], [], ⟨rfl, rfl, ⟨rfl, .inl ⟨_, _, rfl, rfl⟩⟩, fun k o iv h => by cases h⟩, fun o h => by cases h⟩
  · simp at hcs
    subst hcs
    have hlm : len ≤ m := by rw [hmm]; split <;> omega
    obtain ⟨F, hF⟩ := choose_lt (α := OD × Value) (n := len) (p := fun i q => (∀ j, j < 14 → W.cell? (a.add (i * 14 + j)) = (voC q.1 q.2)[j]?) ∧ Rd W 1 q.2 q.1.ids.length (q.1.ids.map vn) ∧ q.1.wf) (fun i hi => by
      obtain ⟨cs', hc, ht'⟩ := hel i (by omega)
      rw [hC, h14] at hc
      obtain ⟨_, hcl, hat⟩ := World.cells?_some hc
      obtain ⟨o, iv, k, rfl, hr, hw⟩ := opt_cells he hone hC hk ht'
      refine ⟨(o, iv), fun j hj => ?_, ?_, hw⟩
      · have h2 := hat j hj
        rw [add_add] at h2
        exact h2
      · rw [rd_ids hr] at hr; exact hr)
    by_cases h0 : len = 0
    · subst h0
      exact ⟨0, [], [], ⟨rfl, rfl, ⟨rfl, .inl ⟨_, _, rfl, rfl⟩⟩, fun k o iv h => by cases h⟩, fun o h => by cases h⟩
    · have hc0 := (hF 0 (by omega)).1 0 (by omega)
      have ha : ∃ b off, a = ⟨b, off, none⟩ := by
        obtain ⟨b, off, spt⟩ := a
        cases spt with
        | none => exact ⟨b, off, rfl⟩
        | some q =>
          rw [show (⟨b, off, some q⟩ : Addr).add (0 * 14 + 0) = ⟨b, off, some q⟩ from rfl] at hc0
          unfold World.cell? at hc0
          rw [show (voC (F 0).1 (F 0).2)[0]? = some (.int .i64 (F 0).1.k) from rfl] at hc0
          split at hc0
          · simp at hc0
          · cases hc0
      obtain ⟨b, off, rfl⟩ := ha
      have hadd : ∀ k, (⟨b, off, none⟩ : Addr).add k = ⟨b, off + k, none⟩ := fun k => by unfold Addr.add; split <;> simp_all
      have hblk : b < W.heap.size := block_lt_of_cell (w := W) (a := ⟨b, off, none⟩) (hc0.trans rfl)
      have e1 : ∀ k, k < len → ((List.range len).map fun i => (F i).1)[k]? = some (F k).1 := fun k hk => by simp [hk]
      have e2 : ∀ k, k < len → ((List.range len).map fun i => (F i).2)[k]? = some (F k).2 := fun k hk => by simp [hk]
      refine ⟨len, (List.range len).map fun i => (F i).1, (List.range len).map fun i => (F i).2, ⟨by simp, by simp, ⟨by rw [flatO_len _ _ (by simp)]; simp, .inr ⟨b, off, cap, rfl, hblk, hl, hm, fun j u hu => ?_⟩⟩, fun k o iv ho hi => ?_⟩, fun o ho => ?_⟩
      · have hj : j < len * 14 := by
          have := (List.getElem?_eq_some_iff.1 hu).1
          rw [flatO_len _ _ (by simp)] at this
          simpa using this
        have hk : j / 14 < len := by omega
        obtain ⟨o, iv, h1, h2, h3⟩ := flatO_cell ((List.range len).map fun i => (F i).1) ((List.range len).map fun i => (F i).2) (by simp) j (by simpa using hj)
        rw [e1 _ hk] at h1
        rw [e2 _ hk] at h2
        obtain rfl := Option.some.inj h1
        obtain rfl := Option.some.inj h2
        have h4 := (hF (j / 14) hk).1 (j % 14) (Nat.mod_lt _ (by omega))
        rw [hadd, show j / 14 * 14 + j % 14 = j by omega] at h4
        rw [h4, ← h3, hu]
      · have hk : k < len := by have := (List.getElem?_eq_some_iff.1 ho).1; simpa using this
        rw [e1 _ hk] at ho
        rw [e2 _ hk] at hi
        obtain rfl := Option.some.inj ho
        obtain rfl := Option.some.inj hi
        exact (hF k hk).2.1
      · obtain ⟨i, hi, rfl⟩ := List.mem_map.1 ho
        exact (hF i (List.mem_range.1 hi)).2.2
/-- an argument that is a segment -/
theorem rd_seg {t ts to_ : TypeId} {fs gs : Array Field} {r : Reach} {b0 : Nat} {v : Value} {d : DataW H} {ps : List MemPlace} (he : P.underlying t = some (.struct gs)) (hone : oneCellFields P gs = true) (hC : P.cellsOf t = gs.size) (hk : kinds P gs = [1, 1, 1, 1, 1, 1, 1, 5, 3]) (h7 : (gs[7]?).map (·.type) = some ts)
    (hts : P.underlying ts = some (.slice to_)) (heo : P.underlying to_ = some (.struct fs)) (honeo : oneCellFields P fs = true) (hCo : P.cellsOf to_ = fs.size) (hko : kinds P fs = optKinds)
    (hv : Value.okWide P W r b0 t v) (h : DataW.Trod enc P W 0 sp hd t v d ps) : ∃ (x : SD) (ov : Value) (n : Nat) (ivs : List Value), v = vx x ov ∧ RdO W ov n x.ops ivs ∧ x.wf := by
  obtain ⟨cs, rfl, _⟩ := okWide_struct he hv
  obtain ⟨fuel, hf⟩ := h
  obtain ⟨hlen, n, hfld⟩ := struct_cells he hone hC hf
  have h9 : cs.toList.length = 9 := by
    have h2 := congrArg List.length hk
    unfold kinds at h2
    simp only [List.length_map, Array.length_toList, List.length_cons, List.length_nil] at h2
    exact hlen.trans h2
  obtain ⟨x0, c0, w0⟩ := fld_int hk hfld 0 rfl
  obtain ⟨x1, c1, w1⟩ := fld_int hk hfld 1 rfl
  obtain ⟨x2, c2, w2⟩ := fld_int hk hfld 2 rfl
  obtain ⟨x3, c3, w3⟩ := fld_int hk hfld 3 rfl
  obtain ⟨x4, c4, w4⟩ := fld_int hk hfld 4 rfl
  obtain ⟨x5, c5, w5⟩ := fld_int hk hfld 5 rfl
  obtain ⟨x6, c6, w6⟩ := fld_int hk hfld 6 rfl
  obtain ⟨x8, c8, w8⟩ := fld_string hk hfld 8 rfl
  obtain ⟨f7, hf7, hft⟩ : ∃ f, gs[7]? = some f ∧ f.type = ts := by
    cases e : gs[7]? with
    | none => rw [e] at h7; cases h7
    | some f => rw [e] at h7; exact ⟨f, rfl, by simpa using h7⟩
  obtain ⟨ov, y, c7, ht7⟩ := hfld 7 f7 hf7
  rw [hft] at ht7
  obtain ⟨m, os, ivs, hr, hw⟩ := rd_opts_cell hts heo honeo hCo hko ht7
  refine ⟨⟨x0, x1, x2, x3, x4, x5, x6, os, x8⟩, ov, m, ivs, ?_, hr, ⟨⟨w0, w1, w2, w3, w4, w5, w6⟩, w8, hw⟩⟩
  unfold vx
  congr 1
  apply Array.toList_inj.1
  match e : cs.toList, h9 with
  | [a0, a1, a2, a3, a4, a5, a6, a7, a8], _ =>
    have e' : (Value.agg cs).cells.toList = [a0, a1, a2, a3, a4, a5, a6, a7, a8] := e
    rw [e'] at c0 c1 c2 c3 c4 c5 c6 c7 c8
    simp only [List.getElem?_cons_zero, List.getElem?_cons_succ, Option.some.injEq] at c0 c1 c2 c3 c4 c5 c6 c7 c8
    rw [c0, c1, c2, c3, c4, c5, c6, c7, c8]
end
end Go.Proofs.Ytkgbkgonlopciaa

/- The frame of a law's row whose specification names package-level variables. -/
import Derived.Test.YtmhekefjlepfpaaDoorF
import Derived.Test.YtmhekefjlepfpaaDoorK4
import Derived.WalkSmall
import Derived.Deep.DeepHandedRow
import Derived.Lib.LaidTab
namespace Go.Proofs.YtmhekefjlepfpaaDoor
open Go.ChangeShapes Go.WideShapes Go.ChangeAt Go.RowKit
set_option linter.unusedVariables false

section
variable {H : Type} {enc : TypeId × Value → H} {P : Program} {W W' : World}

/-- the variables read as before -/
theorem trodVars_stays (hl : laidOutB P = true) (hb : Below W.heap.size W W') : ∀ (ns : List String) (gs : List (DataW H)) (ps : List MemPlace),
    (∀ n ∈ ns, ∃ g t, P.globalNamed n = some g ∧ (P.globals[g]?).map (·.type) = some t ∧ P.readableRec t = true ∧ t < P.types.size) → DataW.TrodVars enc P W (fun _ => true) ns gs ps → (∀ x ∈ ps, x.block < W.heap.size) →
    DataW.TrodVars enc P W' (fun b => decide (b < W.heap.size)) ns gs ps
  | [], gs, ps, _, h, _ => by
    cases gs <;> simp [DataW.TrodVars] at h ⊢
    exact h
  | n :: ns, gs, ps, hn, h, hlt => by
    cases gs with
    | nil => simp [DataW.TrodVars] at h
    | cons d ds =>
      obtain ⟨g, t, cs, fuel, p, q, h1, h2, h3, h4, h5, rfl⟩ := h
      obtain ⟨g', t', k1, k2, k3, k4⟩ := hn n (by simp)
      obtain rfl : g = g' := Option.some.inj (h1.symm.trans k1)
      obtain rfl : t = t' := Option.some.inj (h2.symm.trans k2)
      have hg : g < W.heap.size := by
        unfold World.var? at h3
        rw [h1] at h3
        simp only [Option.bind_some] at h3
        split at h3
        · rename_i hb2
          exact (Array.getElem?_eq_some_iff.1 hb2).1
        · cases h3
      obtain ⟨fuel', h4'⟩ := Below.trod (v := .agg cs) hl k3 k4 ⟨fuel, h4⟩ hb (fun x hx => hlt x (by simp [hx]))
      exact ⟨g, t, cs, fuel', p, q, h1, h2, var?_below hb h1 hg h3, h4', trodVars_stays hl hb ns ds q (fun m hm => hn m (by simp [hm])) h5 (fun x hx => hlt x (by simp [hx])), rfl⟩

/-- the row's last step: true came back, nothing that was there has changed -/
theorem law_postV {f : Func} {s : ChangeSpec} {args : Array Value} {ds gs : List (DataW H)} {before : List MemPlace} {tb : TypeId}
    (htb : P.underlying tb = some .bool) (hf : f.resultTypes = #[tb])
    (hvars : ∀ n ∈ s.vars, ∃ g t, P.globalNamed n = some g ∧ (P.globals[g]?).map (·.type) = some t ∧ P.readableRec t = true ∧ t < P.types.size)
    (hl : laidOutB P = true) (hr : ∀ t ∈ f.params.toList, P.readableRec t = true ∧ t < P.types.size)
    (hW : DataW.Whole enc P f.params.toList s.vars false W args.toList ds gs before)
    (hres : (s.fn H (ds ++ gs)).results = [.lit (.bool true)]) (hargs : (s.fn H (ds ++ gs)).args = ds) (hv : (s.fn H (ds ++ gs)).vars = gs)
    (hb : Below W.heap.size W W') : s.post enc P f false true false false W args (.bool true) W' := by
  have hlt : ∀ x ∈ before, x.block < W.heap.size := fun x hx => hW.lt x hx
  have hW2 := hW
  obtain ⟨p, q, hA, hV, hpq, _, _⟩ := hW2
  refine ⟨ds, gs, before, [], p, q, hW, ?_, ?_, ?_, hb.frame _, fun h => by cases h⟩
  · rw [hres, hf]
    exact trodAll_mk1 (shut_bool htb true)
  · rw [hargs]
    exact trodAll_stays hl hb _ _ _ _ hr hA (fun x hx => hlt x (by rw [hpq]; simp [hx]))
  · rw [hv]
    exact trodVars_stays hl hb _ _ _ hvars hV (fun x hx => hlt x (by rw [hpq]; simp [hx]))
end

section
variable {H : Type} {enc : TypeId × Value → H} {P : Program} {W : World}
/-- an argument that is a slice of integers, as a slice that is read -/
theorem rd_ints {t e : TypeId} {k : IntKind} {r : Reach} {b0 : Nat} {sp : Nat → Bool} {hd : Bool} {v : Value} {d : DataW H} {ps : List MemPlace} (ht : P.underlying t = some (.slice e)) (he : P.underlying e = some (.int k)) (hc : P.cellsOf e = 1)
    (hv : Value.okWide P W r b0 t v) (h : DataW.Trod enc P W 0 sp hd t v d ps) : ∃ (n : Nat) (xs : List Int), Rd W 1 v n (xs.map (Value.int k)) ∧ ∀ x ∈ xs, (Lit.int k x).wf = true := by
  obtain ⟨a0, len, cap, rfl⟩ := okWide_slice ht hv
  obtain ⟨fuel, hf⟩ := h
  rcases open_ints ht he hc hf with ⟨hcs, _⟩ | ⟨a, len', cap', zs, hcs, _, hl, hm, hz, _, hcell, hwz⟩
  · simp [Value.cells] at hcs
    obtain ⟨rfl, rfl, rfl⟩ := hcs
    exact ⟨0, [], ⟨by simp, .inl ⟨_, _, rfl, rfl⟩⟩, by simp⟩
  · simp [Value.cells] at hcs
    obtain ⟨rfl, rfl, rfl⟩ := hcs
    have hlz : len ≤ zs.length := by rw [hz]; split <;> omega
    by_cases h0 : len = 0
    · subst h0
      exact ⟨0, [], ⟨by simp, .inl ⟨_, _, rfl, rfl⟩⟩, by simp⟩
    · obtain ⟨b, off, rfl, hcc⟩ := ints_at hcell (by omega)
      have hblk : b < W.heap.size := by
        have := hcc 0 (by omega)
        exact block_lt_of_cell this
      refine ⟨len, zs.take len, ⟨by simp; omega, .inr ⟨b, off, cap, rfl, hblk, hl, hm, fun j u hu => ?_⟩⟩, fun x hx => hwz x (List.mem_of_mem_take hx)⟩
      have hj : j < len := by
        have := (List.getElem?_eq_some_iff.1 hu).1
        simp at this
        omega
      rw [hcc j (by omega), ← hu, List.getElem?_map, List.getElem?_take_of_lt hj, List.getD_eq_getElem?_getD, List.getElem?_eq_getElem (by omega)]
      rfl
end

end Go.Proofs.YtmhekefjlepfpaaDoor

/- Words for memory, fourth part: a slice that is only read; a slice of the call's own that is written in place. -/
import Derived.Test.YtmhekefjlepfpaaDoorK2
import Derived.Test.YtmhekefjlepfpaaDoorK3
import Derived.OpenShut
namespace Go.Proofs.YtmhekefjlepfpaaDoor
open Go.RowKit
set_option linter.unusedVariables false
set_option linter.unusedSimpArgs false

/-- the slice v of n elements (size cells each) reads as xs -/
def Rd (w : World) (size : Nat) (v : Value) (n : Nat) (xs : List Value) : Prop :=
  xs.length = n * size ∧ ((∃ A cap, v = .slice A 0 cap ∧ n = 0) ∨ ∃ b off cap, v = .slice (some ⟨b, off, none⟩) n cap ∧ b < w.heap.size ∧ n ≤ cap ∧ cap ≤ maxLen ∧ ∀ j u, xs[j]? = some u → w.cell? ⟨b, off + j, none⟩ = some u)
theorem Rd.of_obs {w : World} {B size n : Nat} {v : Value} {xs : List Value} (h : Obs w B size v n xs) : Rd w size v n xs := by
  refine ⟨h.1, ?_⟩
  rcases h.2 with ⟨h2, h3⟩ | ⟨g, cap, rfl, hB, hg, hnc, hm, hc, hx⟩
  · exact .inl ⟨none, 0, h2, h3⟩
  · exact .inr ⟨g, 0, cap, rfl, hg, hnc, hm, fun j u hu => by rw [Nat.zero_add]; exact hx j u hu⟩
theorem Rd.below {w w' : World} {size n : Nat} {v : Value} {xs : List Value} (h : Rd w size v n xs) (hb : Below w.heap.size w w') : Rd w' size v n xs := by
  refine ⟨h.1, ?_⟩
  rcases h.2 with h2 | ⟨b, off, cap, rfl, hg, hnc, hm, hx⟩
  · exact .inl h2
  · exact .inr ⟨b, off, cap, rfl, Nat.lt_of_lt_of_le hg hb.size, hnc, hm, fun j u hu => (hb.cell (p := ⟨b, off + j, none⟩) hg).trans (hx j u hu)⟩
theorem Rd.len {w : World} {size n : Nat} {v : Value} {xs : List Value} (h : Rd w size v n xs) : xs.length = n * size := h.1
theorem Rd.shape {w : World} {size n : Nat} {v : Value} {xs : List Value} (h : Rd w size v n xs) : ∃ A cap, v = .slice A n cap ∧ n ≤ maxLen := by
  rcases h.2 with ⟨A, cap, rfl, rfl⟩ | ⟨b, off, cap, rfl, _, hn, hm, _⟩
  · exact ⟨A, cap, rfl, by unfold maxLen; omega⟩
  · exact ⟨_, cap, rfl, by omega⟩
theorem Rd.full {w : World} {size n : Nat} {v : Value} {xs : List Value} (h : Rd w size v n xs) (h0 : 0 < n) :
    ∃ b off cap, v = .slice (some ⟨b, off, none⟩) n cap ∧ b < w.heap.size ∧ n ≤ maxLen ∧ ∀ j u, xs[j]? = some u → w.cell? ⟨b, off + j, none⟩ = some u := by
  rcases h.2 with ⟨A, cap, rfl, rfl⟩ | ⟨b, off, cap, rfl, hg, hn, hm, hx⟩
  · omega
  · exact ⟨b, off, cap, rfl, hg, by omega, hx⟩
theorem Obs.rd {w : World} {B size n : Nat} {v : Value} {xs : List Value} (h : Obs w B size v n xs) : Rd w size v n xs := Rd.of_obs h
theorem Obs.le {w : World} {B size n : Nat} {v : Value} {xs : List Value} (h : Obs w B size v n xs) : n ≤ maxLen := by
  obtain ⟨_, _, _, h2⟩ := h.rd.shape
  exact h2
/-- a cell of an own slice is written -/
theorem Obs.set_ {w : World} {B size n g cap : Nat} {xs : List Value} (h : Obs w B size (.slice (some ⟨g, 0, none⟩) n cap) n xs) (j : Nat) (hj : j < n * size) (u : Value) :
    Obs (w.setCell ⟨g, j, none⟩ u) B size (.slice (some ⟨g, 0, none⟩) n cap) n (xs.set j u) := by
  refine ⟨by simp [h.1], ?_⟩
  rcases h.2 with ⟨h2, _⟩ | ⟨g', cap', he, hB, hg, hnc, hm, hc, hx⟩
  · cases h2
  · simp only [Value.slice.injEq, Option.some.injEq, Addr.mk.injEq] at he
    obtain ⟨⟨rfl, _⟩, _, rfl⟩ := he
    have hcell : ∀ k, k ≠ j → (w.setCell ⟨g, j, none⟩ u).cell? ⟨g, k, none⟩ = w.cell? ⟨g, k, none⟩ := fun k hk => World.cell?_setCell_other w ⟨g, j, none⟩ ⟨g, k, none⟩ u (fun e => hk (Addr.mk.inj e).2.1.symm)
    have hmul : n * size ≤ cap * size := Nat.mul_le_mul_right _ hnc
    have hin : (w.setCell ⟨g, j, none⟩ u).cell? ⟨g, j, none⟩ = some u := World.cell?_setCell_same' w ⟨g, j, none⟩ u (hc j (by omega)).1
    refine .inr ⟨g, cap, rfl, hB, by simp [World.setCell]; exact hg, hnc, hm, fun k hk => ?_, fun k v hv => ?_⟩
    · refine ⟨?_, ?_⟩
      · by_cases e : k = j
        · subst e; rw [hin]; rfl
        · rw [hcell k e]; exact (hc k hk).1
      · have := (hc k hk).2
        rw [World.frozen?_setCell]; exact this
    · by_cases e : k = j
      · subst e
        rw [hin]
        rw [List.getElem?_set_self (by rw [h.1]; exact hj)] at hv
        exact hv
      · rw [hcell k e]
        rw [List.getElem?_set_ne (fun e2 => e e2.symm)] at hv
        exact hx k v hv
theorem Obs.cellAt {w : World} {B size n g cap : Nat} {xs : List Value} (h : Obs w B size (.slice (some ⟨g, 0, none⟩) n cap) n xs) {j : Nat} {u : Value} (hu : xs[j]? = some u) : w.cell? ⟨g, j, none⟩ = some u ∧ w.frozen? ⟨g, j, none⟩ = false := by
  rcases h.2 with ⟨h2, _⟩ | ⟨g', cap', he, hB, hg, hnc, hm, hc, hx⟩
  · cases h2
  · simp only [Value.slice.injEq, Option.some.injEq, Addr.mk.injEq] at he
    obtain ⟨⟨rfl, _⟩, _, rfl⟩ := he
    have hj : j < n * size := by rw [← h.1]; exact (List.getElem?_eq_some_iff.1 hu).1
    have hmul : n * size ≤ cap * size := Nat.mul_le_mul_right _ hnc
    exact ⟨hx j u hu, (hc j (by omega)).2⟩
/-- nothing but the block of v has been written -/
def Only (w w' : World) (v : Value) : Prop := w.grownBy w' v.ownBlock
theorem Only.refl (w : World) (v : Value) : Only w w v := ⟨rfl, rfl, rfl, Nat.le_refl _, fun _ _ _ => rfl⟩
theorem Only.set_ {w w' : World} {v : Value} {g : Nat} (h : Only w w' v) (hv : v.ownBlock = some g) (j : Nat) (u : Value) : Only w (w'.setCell ⟨g, j, none⟩ u) v :=
  ⟨h.os, h.tape, h.output, by have := h.size; simpa [World.setCell] using this, fun k hk hne => (Below.heap_setCell w' ⟨g, j, none⟩ u k (by intro e; exact hne (by rw [hv, e]))).trans (h.block k hk hne)⟩
theorem Only.drew {w w' : World} {v : Value} (h : Only w w' v) : Only w w'.drew v := ⟨h.os, h.tape, h.output, h.size, h.block⟩
theorem Only.drewN {w w' : World} {v : Value} (h : Only w w' v) (k : Nat) : Only w (w'.drewN k) v := ⟨h.os, h.tape, h.output, h.size, h.block⟩
theorem Only.below {w w' : World} {v : Value} {B : Nat} (h : Only w w' v) (hB : B ≤ w.heap.size) (hv : ∀ g, v.ownBlock = some g → B ≤ g) : Below B w w' := (Below.refl _ _).grown h hB hv
theorem Below.only {w w1 w2 : World} {v : Value} {B : Nat} (hb : Below B w w1) (h : Only w1 w2 v) (hv : ∀ g, v.ownBlock = some g → B ≤ g) (hB : B ≤ w1.heap.size) : Below B w w2 := hb.trans (h.below hB hv)
theorem Rd.only {w w' : World} {size n B : Nat} {v v' : Value} {xs : List Value} (h : Rd w size v n xs) (hv : ∀ b off n' cap, v = .slice (some ⟨b, off, none⟩) n' cap → b < B) (ho : Only w w' v') (h' : ∀ g, v'.ownBlock = some g → B ≤ g) : Rd w' size v n xs := by
  refine ⟨h.1, ?_⟩
  rcases h.2 with h2 | ⟨b, off, cap, rfl, hg, hnc, hm, hx⟩
  · exact .inl h2
  · have hbB := hv b off n cap rfl
    have hblk := ho.block b hg (by intro e; have := h' b e.symm; omega)
    exact .inr ⟨b, off, cap, rfl, Nat.lt_of_lt_of_le hg ho.size, hnc, hm, fun j u hu => (World.cell?_of_block (w := w) (a := ⟨b, off + j, none⟩) hblk).trans (hx j u hu)⟩
theorem Obs.only {w w' : World} {B B' size n : Nat} {v v' : Value} {xs : List Value} (h : Obs w B size v n xs) (hv : ∀ g, v.ownBlock = some g → g < B') (ho : Only w w' v') (h' : ∀ g, v'.ownBlock = some g → B' ≤ g) : Obs w' B size v n xs :=
  h.same ho.size (fun g hg => ho.block g (h.lt g hg).2 (by intro e; have := h' g e.symm; have := hv g hg; omega))
/-- the call hands back a slice of its own -/
def GivesRow (size n : Nat) (xs : List Value) (w : World) (e : Ending) (w' : World) : Prop := ∃ v, e = .returned v ∧ Obs w' w.heap.size size v n xs ∧ Below w.heap.size w w'
theorem getElem?_map_vn (xs : List Int) (k : Nat) (h : k < xs.length) : (xs.map vn)[k]? = some (vn (xs[k]'h)) := by simp [h]
end Go.Proofs.YtmhekefjlepfpaaDoor

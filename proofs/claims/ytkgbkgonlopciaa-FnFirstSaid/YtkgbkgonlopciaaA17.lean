/- The walks of the reference's small functions for options: the shape of a kind, a field by its letter. -/
import Derived.Test.YtkgbkgonlopciaaA14
import Derived.Deep.Cut
import Derived.Outline
import Derived.Deep.QuietTactic
import Derived.BigQuiet
namespace Go.Proofs.Ytkgbkgonlopciaa
open Go.RowKit
set_option linter.unusedVariables false
set_option linter.unusedSimpArgs false
/-- the letter of a field -/
def ltr : Nat → UInt8
  | 1 => 105
  | 2 => 100
  | 3 => 112
  | 4 => 116
  | 5 => 110
  | 6 => 115
  | 7 => 117
  | 8 => 108
  | 9 => 97
  | 10 => 102
  | 11 => 107
  | 12 => 109
  | _ => 0
/-- the sign of a width -/
def wsg (w : Nat) : UInt8 := if w = 20 then 58 else UInt8.ofNat (48 + w)
def shL (L : List (Nat × Nat)) : List UInt8 := L.flatMap fun f => [ltr f.1, wsg f.2]
def shp (k : Int) : ByteArray := str (shL (lay k))
theorem shL_len (L : List (Nat × Nat)) : (shL L).length = L.length * 2 := by
  unfold shL
  induction L with
  | nil => rfl
  | cons f r ih => rw [List.flatMap_cons, List.length_append, ih]; simp; omega
theorem shL_at {L : List (Nat × Nat)} {j : Nat} (h : j < L.length) : (shL L)[j * 2]? = some (ltr (L[j]'h).1) ∧ (shL L)[j * 2 + 1]? = some (wsg (L[j]'h).2) := by
  induction L generalizing j with
  | nil => simp at h
  | cons f r ih =>
    cases j with
    | zero => exact ⟨rfl, rfl⟩
    | succ j =>
      have := ih (j := j) (by simpa using h)
      have e : shL (f :: r) = ltr f.1 :: wsg f.2 :: shL r := rfl
      rw [e, show (j + 1) * 2 = j * 2 + 1 + 1 by omega]
      simpa using this
theorem shp_size (k : Int) : (shp k).size = (lay k).length * 2 := by unfold shp; rw [str_size, shL_len]
theorem shp_at {k : Int} {j : Nat} (h : j < (lay k).length) : ∃ (h1 : j * 2 < (shp k).size) (h2 : j * 2 + 1 < (shp k).size), (shp k)[j * 2]'h1 = ltr ((lay k)[j]'h).1 ∧ (shp k)[j * 2 + 1]'h2 = wsg ((lay k)[j]'h).2 := by
  obtain ⟨e1, e2⟩ := shL_at h
  refine ⟨by rw [shp_size]; omega, by rw [shp_size]; omega, ?_, ?_⟩
  · obtain ⟨h1, h3⟩ := List.getElem?_eq_some_iff.1 e1
    exact h3
  · obtain ⟨h1, h3⟩ := List.getElem?_eq_some_iff.1 e2
    exact h3
/-- the widths that occur -/
theorem lay_w {k : Int} {j : Nat} (h : j < (lay k).length) : ((lay k)[j]'h).2 = 20 ∨ (1 ≤ ((lay k)[j]'h).2 ∧ ((lay k)[j]'h).2 ≤ 8) := by
  have : ∀ f ∈ lay k, f.2 = 20 ∨ (1 ≤ f.2 ∧ f.2 ≤ 8) := by
    unfold lay
    repeat' split
    all_goals simp
  exact this _ (List.getElem_mem h)
theorem kinds10 {k : Int} (h : 1 ≤ k ∧ k ≤ 10) : k = 1 ∨ k = 2 ∨ k = 3 ∨ k = 4 ∨ k = 5 ∨ k = 6 ∨ k = 7 ∨ k = 8 ∨ k = 9 ∨ k = 10 := by omega
set_option maxRecDepth 100000 in
set_option maxHeartbeats 1600000 in
theorem shape_s (k : Int) (w : World) (h : 1 ≤ k ∧ k ≤ 10) : Calls Try.prog 70 #[.int .i64 k] w fun e w' => e = .returned (.string (shp k)) ∧ Below w.heap.size w w' := by
  rcases kinds10 h with rfl | rfl | rfl | rfl | rfl | rfl | rfl | rfl | rfl | rfl
  all_goals
    clear h
    go_enter Try.func70, Try.ntmps70
    go_wp2
    go_ret
    exact ⟨rfl, (Below.refl _ _).alloc (Nat.le_refl _) _⟩
set_option maxRecDepth 100000 in
set_option maxHeartbeats 1600000 in
theorem num_s (o : OD) (iv : Value) (i : Nat) (w : World) (h1 : 1 ≤ i) (h10 : i ≤ 10) : Calls Try.prog 72 #[vo o iv, .int .u8 ((ltr i).toNat : Int)] w fun e w' => e = .returned (.tuple #[.int .i64 (o.num i), .bool true]) ∧ Below w.heap.size w w' := by
  obtain ⟨ko, id, ad, po, to, no, se, su, le, ac, fl, ke, ma, ids⟩ := o
  unfold vo
  rcases (show i = 1 ∨ i = 2 ∨ i = 3 ∨ i = 4 ∨ i = 5 ∨ i = 6 ∨ i = 7 ∨ i = 8 ∨ i = 9 ∨ i = 10 by omega) with rfl | rfl | rfl | rfl | rfl | rfl | rfl | rfl | rfl | rfl
  case inr.inr.inr.inr.inr.inr.inr.inr.inr =>
    rw [show ((ltr 10).toNat : Int) = 102 from rfl]
    cases fl
    all_goals
      go_enter Try.func72, Try.ntmps72
      go_wp2
      go_ret2
      exact ⟨rfl, (Below.refl _ _).alloc (Nat.le_refl _) _⟩
  all_goals
    simp only [ltr]
    go_enter Try.func72, Try.ntmps72
    go_wp2
    go_ret2
    exact ⟨rfl, (Below.refl _ _).alloc (Nat.le_refl _) _⟩
set_option maxRecDepth 100000 in
set_option maxHeartbeats 1600000 in
theorem num_s_no (o : OD) (iv : Value) (i : Nat) (w : World) (h : i = 11 ∨ i = 12) : Calls Try.prog 72 #[vo o iv, .int .u8 ((ltr i).toNat : Int)] w fun e w' => e = .returned (.tuple #[.int .i64 0, .bool false]) ∧ Below w.heap.size w w' := by
  obtain ⟨ko, id, ad, po, to, no, se, su, le, ac, fl, ke, ma, ids⟩ := o
  unfold vo
  rcases h with rfl | rfl
  all_goals
    simp only [ltr]
    go_enter Try.func72, Try.ntmps72
    go_wp2
    go_ret2
    exact ⟨rfl, (Below.refl _ _).alloc (Nat.le_refl _) _⟩
set_option maxRecDepth 100000 in
theorem text_s (o : OD) (iv : Value) (i : Nat) (w : World) (h : i = 11 ∨ i = 12) : Calls Try.prog 75 #[vo o iv, .int .u8 ((ltr i).toNat : Int)] w fun e w' => e = .returned (.string (o.txt i)) ∧ Below w.heap.size w w' := by
  obtain ⟨ko, id, ad, po, to, no, se, su, le, ac, fl, ke, ma, ids⟩ := o
  unfold vo
  rcases h with rfl | rfl
  all_goals
    simp only [ltr]
    go_enter Try.func75, Try.ntmps75
    go_wp2
    go_ret
    exact ⟨rfl, (Below.refl _ _).alloc (Nat.le_refl _) _⟩
set_option maxRecDepth 100000 in
theorem wide_s (m : Nat) (w : World) (h : m = 20 ∨ (1 ≤ m ∧ m ≤ 8)) : Calls Try.prog 73 #[.int .u8 ((wsg m).toNat : Int)] w fun e w' => e = .returned (.int .i64 (m : Int)) ∧ w = w' := by
  rcases (show m = 20 ∨ m = 1 ∨ m = 2 ∨ m = 3 ∨ m = 4 ∨ m = 5 ∨ m = 6 ∨ m = 7 ∨ m = 8 by omega) with rfl | rfl | rfl | rfl | rfl | rfl | rfl | rfl | rfl
  · rw [show ((wsg 20).toNat : Int) = 58 from rfl]
    clear h
    go_enter Try.func73, Try.ntmps73
    go_wp2
    go_ret
    exact ⟨rfl, rfl⟩
  · rw [show ((wsg 1).toNat : Int) = 49 from rfl]; clear h; go_enter Try.func73, Try.ntmps73; go_wp2; go_ret; exact ⟨rfl, rfl⟩
  · rw [show ((wsg 2).toNat : Int) = 50 from rfl]; clear h; go_enter Try.func73, Try.ntmps73; go_wp2; go_ret; exact ⟨rfl, rfl⟩
  · rw [show ((wsg 3).toNat : Int) = 51 from rfl]; clear h; go_enter Try.func73, Try.ntmps73; go_wp2; go_ret; exact ⟨rfl, rfl⟩
  · rw [show ((wsg 4).toNat : Int) = 52 from rfl]; clear h; go_enter Try.func73, Try.ntmps73; go_wp2; go_ret; exact ⟨rfl, rfl⟩
  · rw [show ((wsg 5).toNat : Int) = 53 from rfl]; clear h; go_enter Try.func73, Try.ntmps73; go_wp2; go_ret; exact ⟨rfl, rfl⟩
  · rw [show ((wsg 6).toNat : Int) = 54 from rfl]; clear h; go_enter Try.func73, Try.ntmps73; go_wp2; go_ret; exact ⟨rfl, rfl⟩
  · rw [show ((wsg 7).toNat : Int) = 55 from rfl]; clear h; go_enter Try.func73, Try.ntmps73; go_wp2; go_ret; exact ⟨rfl, rfl⟩
  · rw [show ((wsg 8).toNat : Int) = 56 from rfl]; clear h; go_enter Try.func73, Try.ntmps73; go_wp2; go_ret; exact ⟨rfl, rfl⟩
end Go.Proofs.Ytkgbkgonlopciaa

/- The walks of the options' helpers of the program: the fields of a kind, a field by its name. -/
import Derived.Test.YtkgbkgonlopciaaProg
import Derived.Test.YtkgbkgonlopciaaK
import Derived.Test.YtkgbkgonlopciaaK2
import Derived.Test.YtkgbkgonlopciaaK3
import Derived.Test.YtkgbkgonlopciaaK4
import Derived.Test.YtkgbkgonlopciaaP1
import Derived.Test.YtkgbkgonlopciaaA1
import Derived.Test.YtkgbkgonlopciaaM1
import Derived.Test.YtkgbkgonlopciaaM6
import Derived.Test.YtkgbkgonlopciaaK6
namespace Go.Proofs.Ytkgbkgonlopciaa
open Go.RowKit
set_option linter.unusedVariables false
set_option linter.unusedSimpArgs false
/-- the name of a field -/
def nm : Nat → ByteArray
  | 1 => ⟨#[105, 100]⟩
  | 2 => ⟨#[97, 100, 100, 114]⟩
  | 3 => ⟨#[112, 111, 114, 116]⟩
  | 4 => ⟨#[116, 111, 107, 101, 110]⟩
  | 5 => ⟨#[110, 111, 110, 99, 101]⟩
  | 6 => ⟨#[115, 101, 113]⟩
  | 7 => ⟨#[115, 117, 98]⟩
  | 8 => ⟨#[108, 101, 110]⟩
  | 9 => ⟨#[97, 99, 107]⟩
  | 10 => ⟨#[102, 108, 97, 103]⟩
  | 11 => ⟨#[107, 101, 121]⟩
  | 12 => ⟨#[109, 97, 114, 107]⟩
  | _ => ⟨#[]⟩
/-- the cells of a list of fields -/
def fsC (L : List (Nat × Nat)) : List Value := L.flatMap fun f => [.string (nm f.1), .int .i64 (f.2 : Int)]
theorem fsC_len (L : List (Nat × Nat)) : (fsC L).length = L.length * 2 := by
  unfold fsC
  induction L with
  | nil => rfl
  | cons f r ih => rw [List.flatMap_cons, List.length_append, ih]; simp; omega
theorem fsC_at {L : List (Nat × Nat)} {j : Nat} (h : j < L.length) : (fsC L)[j * 2]? = some (.string (nm (L[j]'h).1)) ∧ (fsC L)[j * 2 + 1]? = some (.int .i64 ((L[j]'h).2 : Int)) := by
  induction L generalizing j with
  | nil => simp at h
  | cons f r ih =>
    cases j with
    | zero => exact ⟨rfl, rfl⟩
    | succ j =>
      have := ih (j := j) (by simpa using h)
      have e : fsC (f :: r) = .string (nm f.1) :: .int .i64 (f.2 : Int) :: fsC r := rfl
      rw [e, show (j + 1) * 2 = j * 2 + 1 + 1 by omega]
      simpa using this
/-- a row of fields is handed back -/
def GivesLay (k : Int) (w : World) (e : Ending) (w' : World) : Prop := ∃ v, e = .returned v ∧ Obs w' w.heap.size 2 v (lay k).length (fsC (lay k)) ∧ Below w.heap.size w w'
theorem gl_row {k : Int} {w : World} {cs : Array Value} {t : TypeId} (h : fsC (lay k) = cs.toList) (n : Nat) (hn : (lay k).length = n) (hn9 : n ≤ 9) : GivesLay k w (.returned (.slice (some ⟨w.heap.size, 0, none⟩) n n)) (w.alloc (.cells cs t)) := by
  refine ⟨_, rfl, ?_, (Below.refl _ _).alloc (Nat.le_refl _) _⟩
  rw [hn, h]
  refine Obs.of_own (World.ownsRow_lit (base := w.heap.size) (e := t) (size := 2) w cs n (Nat.le_refl _) (by unfold maxLen; omega) ?_)
  rw [← Array.length_toList, ← h, fsC_len, hn]
set_option maxRecDepth 100000 in
set_option maxHeartbeats 1600000 in
theorem layoutOf_i (k : Int) (w : World) : Calls Try.prog 79 #[.int .i64 k] w (GivesLay k w) := by
  by_cases h : k = 1 ∨ k = 2 ∨ k = 3 ∨ k = 4 ∨ k = 5 ∨ k = 6 ∨ k = 7 ∨ k = 9 ∨ k = 10
  · rcases h with rfl | rfl | rfl | rfl | rfl | rfl | rfl | rfl | rfl
    all_goals
      go_enter Try.func79, Try.ntmps79
      go_wp2
      go_ret
      exact gl_row rfl _ rfl (by decide)
  · have HL : Hid (lay k = []) := Lib.hid (by
      unfold lay
      repeat rw [if_neg (by omega)])
    have c1 : ¬ k = 1 := by omega
    have c2 : ¬ k = 2 := by omega
    have c3 : ¬ k = 3 := by omega
    have c4 : ¬ k = 4 := by omega
    have c5 : ¬ k = 5 := by omega
    have c6 : ¬ k = 6 := by omega
    have c7 : ¬ k = 7 := by omega
    have c9 : ¬ k = 9 := by omega
    have c10 : ¬ k = 10 := by omega
    clear h
    go_enter Try.func79, Try.ntmps79
    go_wp2
    go_ret
    exact ⟨_, rfl, by rw [HL.out]; exact Obs.nil _ _ _, Below.refl _ _⟩
/-- where a field's text lies -/
def txP (b i : Nat) : Option Addr := if i = 11 then some ⟨b, 11, none⟩ else if i = 12 then some ⟨b, 12, none⟩ else none
set_option maxRecDepth 100000 in
theorem text_i (b i : Nat) (w : World) (h1 : 1 ≤ i) (h12 : i ≤ 12) : Calls Try.prog 80 #[.pointer (some ⟨b, 0, none⟩), .string (nm i)] w fun e w' => e = .returned (.pointer (txP b i)) ∧ w = w' := by
  rcases (show i = 1 ∨ i = 2 ∨ i = 3 ∨ i = 4 ∨ i = 5 ∨ i = 6 ∨ i = 7 ∨ i = 8 ∨ i = 9 ∨ i = 10 ∨ i = 11 ∨ i = 12 by omega) with rfl | rfl | rfl | rfl | rfl | rfl | rfl | rfl | rfl | rfl | rfl | rfl
  all_goals
    unfold nm
    go_enter Try.func80, Try.ntmps80
    go_wp2
    go_ret
    exact ⟨rfl, rfl⟩
set_option maxRecDepth 100000 in
theorem number_i (b i : Nat) (w : World) (h1 : 1 ≤ i) (h12 : i ≤ 9) : Calls Try.prog 82 #[.pointer (some ⟨b, 0, none⟩), .string (nm i)] w fun e w' => e = .returned (.pointer (some ⟨b, i, none⟩)) ∧ w = w' := by
  rcases (show i = 1 ∨ i = 2 ∨ i = 3 ∨ i = 4 ∨ i = 5 ∨ i = 6 ∨ i = 7 ∨ i = 8 ∨ i = 9 by omega) with rfl | rfl | rfl | rfl | rfl | rfl | rfl | rfl | rfl
  all_goals
    unfold nm
    go_enter Try.func82, Try.ntmps82
    go_wp2
    go_ret
    exact ⟨rfl, rfl⟩
end Go.Proofs.Ytkgbkgonlopciaa

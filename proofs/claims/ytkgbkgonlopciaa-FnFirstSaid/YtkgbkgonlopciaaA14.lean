/- The walk of used: an option with the fields of its kind alone. -/
import Derived.Test.YtkgbkgonlopciaaProg
import Derived.Test.YtkgbkgonlopciaaK
import Derived.Test.YtkgbkgonlopciaaK2
import Derived.Test.YtkgbkgonlopciaaK3
import Derived.Test.YtkgbkgonlopciaaK4
import Derived.Test.YtkgbkgonlopciaaP1
import Derived.Test.YtkgbkgonlopciaaA1
import Derived.Test.YtkgbkgonlopciaaM1
import Derived.Test.YtkgbkgonlopciaaM6
import Derived.Test.YtkgbkgonlopciaaK6
import Derived.Test.YtkgbkgonlopciaaK7
import Derived.Test.YtkgbkgonlopciaaA13
import Derived.Test.YtkgbkgonlopciaaA12
import Derived.Deep.Cut
import Derived.Deep.QuietTactic
import Derived.BigQuiet
import Derived.Deep.RegionHeld
namespace Go.Proofs.Ytkgbkgonlopciaa
open Go.RowKit
set_option linter.unusedVariables false
set_option linter.unusedSimpArgs false
theorem vn_oneI (l : List Int) : ∀ u, u ∈ l.map vn → u.oneCell' = true := by
  intro u hu
  obtain ⟨b, _, rfl⟩ := List.mem_map.1 hu
  rfl
theorem obs_emptyI (w : World) (e : TypeId) (size B : Nat) (hB : B ≤ w.heap.size) : Obs (w.alloc (.cells #[] e)) B size (.slice (some ⟨w.heap.size, 0, none⟩) 0 0) 0 [] :=
  Obs.of_own (World.ownsRow_lit (base := B) (e := e) (size := size) w #[] 0 hB (by simp [maxLen]) (by simp))
theorem voC_num (o : OD) (iv : Value) (i : Nat) (h1 : 1 ≤ i) (h9 : i ≤ 9) : (voC o iv)[i]? = some (.int .i64 (o.num i)) := by
  rcases (show i = 1 ∨ i = 2 ∨ i = 3 ∨ i = 4 ∨ i = 5 ∨ i = 6 ∨ i = 7 ∨ i = 8 ∨ i = 9 by omega) with rfl | rfl | rfl | rfl | rfl | rfl | rfl | rfl | rfl <;> rfl
theorem voC_txt (o : OD) (iv : Value) (i : Nat) (h : i = 11 ∨ i = 12) : (voC o iv)[i]? = some (.string (o.txt i)) := by
  rcases h with rfl | rfl <;> rfl
theorem voC_setN (u : OD) (iv : Value) (i : Nat) (h1 : 1 ≤ i) (h9 : i ≤ 9) (n : Int) (f : Bool) (t : ByteArray) : (voC u iv).set i (.int .i64 n) = voC (u.put i n f t) iv := by
  rcases (show i = 1 ∨ i = 2 ∨ i = 3 ∨ i = 4 ∨ i = 5 ∨ i = 6 ∨ i = 7 ∨ i = 8 ∨ i = 9 by omega) with rfl | rfl | rfl | rfl | rfl | rfl | rfl | rfl | rfl <;> rfl
theorem voC_setT (u : OD) (iv : Value) (i : Nat) (h : i = 11 ∨ i = 12) (n : Int) (f : Bool) (t : ByteArray) : (voC u iv).set i (.string t) = voC (u.put i n f t) iv := by
  rcases h with rfl | rfl <;> rfl
theorem voC_setF (u : OD) (iv : Value) (n : Int) (f : Bool) (t : ByteArray) : (voC u iv).set 10 (.bool f) = voC (u.put 10 n f t) iv := rfl
theorem nm_flag {i : Nat} (h1 : 1 ≤ i) (h12 : i ≤ 12) (h : i ≠ 10) : ((nm i).toList == [102, 108, 97, 103]) = false := by
  rcases (show i = 1 ∨ i = 2 ∨ i = 3 ∨ i = 4 ∨ i = 5 ∨ i = 6 ∨ i = 7 ∨ i = 8 ∨ i = 9 ∨ i = 11 ∨ i = 12 by omega) with rfl | rfl | rfl | rfl | rfl | rfl | rfl | rfl | rfl | rfl | rfl <;> (rw [ByteArray.toList_eq]; decide)
/-- the option with the first j fields of its kind -/
def usedJ (o : OD) (j : Nat) : OD := ((lay o.k).take j).foldl (fun u f => u.put f.1 (o.num f.1) o.fl (o.txt f.1)) (OD.new o.k [])
theorem usedJ_step {o : OD} {j : Nat} (h : j < (lay o.k).length) : usedJ o (j + 1) = (usedJ o j).put ((lay o.k)[j]'h).1 (o.num ((lay o.k)[j]'h).1) o.fl (o.txt ((lay o.k)[j]'h).1) := by
  unfold usedJ
  rw [List.take_succ_eq_append_getElem h, List.foldl_append]
  rfl
theorem usedJ_full {o : OD} (h8 : o.k ≠ 8) : usedJ o (lay o.k).length = used o := by
  unfold usedJ used
  rw [List.take_length, if_neg h8]
theorem lay_at {k : Int} {j : Nat} (h : j < (lay k).length) : 1 ≤ ((lay k)[j]'h).1 ∧ ((lay k)[j]'h).1 ≤ 12 ∧ 1 ≤ ((lay k)[j]'h).2 ∧ ((lay k)[j]'h).2 ≤ 20 := by
  have := lay_ok k _ (List.getElem_mem h)
  omega
theorem used_ids {o : OD} (h8 : o.k ≠ 8) : (used o).ids = [] := by
  unfold used
  rw [if_neg h8]
  have : ∀ (L : List (Nat × Nat)) (u : OD), (L.foldl (fun u f => u.put f.1 (o.num f.1) o.fl (o.txt f.1)) u).ids = u.ids := by
    intro L
    induction L with
    | nil => intro u; rfl
    | cons f r ih =>
      intro u
      rw [List.foldl_cons, ih]
      unfold OD.put
      split <;> rfl
  rw [this]
  rfl
set_option maxRecDepth 100000 in
theorem copyInts_i (v : Value) (n : Nat) (xs : List Int) (w : World) (h : Rd w 1 v n (xs.map vn)) (hn : n ≤ 4294967296) :
    Calls Try.prog 96 #[v] w (GivesRow 1 n (xs.map vn) w) := by
  obtain ⟨i0, hi, hz0, hz1, hz2⟩ := info_parts i64_info
  have he := Lib.hid (obs_emptyI w 3 1 w.heap.size (Nat.le_refl _))
  have H := Lib.hid (h.below ((Below.refl w.heap.size w).alloc (Nat.le_refl _) (.cells #[] 3)))
  have hb : Below w.heap.size w (w.alloc (.cells #[] 3)) := (Below.refl _ _).alloc (Nat.le_refl _) _
  have HB := Lib.hid hb
  clear h hb
  go_enter Try.func96, Try.ntmps96
  go_wp2_with (at_builtin; refine wpList_append_rd _ rfl _ _ 22 rfl w.heap.size 3 i0 (.int .i64 0) 1 8 Try.underlying22 hi hz0 hz1 hz2 rfl (by decide) _ 0 [] rfl he.out v n (xs.map vn) rfl H.out (vn_oneI _) (by unfold maxLen; omega) (by omega) (by simp) ?_; intro v1 w1 hown1 hb1 hg1)
  go_ret
  refine ⟨v1, rfl, ?_, HB.out.trans hb1⟩
  rw [Nat.zero_add, List.nil_append] at hown1
  exact hown1
theorem risingL_at {l : List Int} (h : risingL l = true) : ∀ k, k + 1 < l.length → l.getD k 0 < l.getD (k + 1) 0 := by
  induction l with
  | nil => intro k hk; simp at hk
  | cons a r ih =>
    intro k hk
    cases r with
    | nil => simp at hk
    | cons b r =>
      simp only [risingL, Bool.and_eq_true, decide_eq_true_eq] at h
      cases k with
      | zero => simpa using h.1
      | succ k =>
        have := ih h.2 k (by simpa using hk)
        simpa using this
theorem risingL_of : ∀ {l : List Int}, (∀ k, k + 1 < l.length → l.getD k 0 < l.getD (k + 1) 0) → risingL l = true
  | [], _ => rfl
  | [_], _ => rfl
  | a :: b :: r, h => by
    simp only [risingL, Bool.and_eq_true, decide_eq_true_eq]
    refine ⟨by simpa using h 0 (by simp), risingL_of (fun k hk => ?_)⟩
    have := h (k + 1) (by simpa using hk)
    simpa using this
set_option maxRecDepth 100000 in
theorem rising_i (v : Value) (n : Nat) (xs : List Int) (w : World) (h : Rd w 1 v n (xs.map vn)) :
    Calls Try.prog 78 #[v] w fun e w' => e = .returned (.bool (risingL xs)) ∧ Below w.heap.size w w' := by
  obtain ⟨A1, c1, rfl, hm1⟩ := h.shape
  unfold maxLen at hm1
  have HNX := Lib.hid (rd_ids h)
  have H1 := Lib.hid h
  clear h
  go_enter Try.func78, Try.ntmps78
  go_wp2
  go_loopw [3] (fun i wr => ∃ k : Nat, k + 1 ≤ n + 1 ∧ i = .int .i64 ((k : Int) + 1) ∧ Hid (∀ j, j < k → j + 1 < n → xs.getD j 0 < xs.getD (j + 1) 0) ∧ Hid (Below w.heap.size w wr)) (fun i _ => n + 1 - (intOf i).toNat)
  case atStart => exact ⟨0, by omega, rfl, Lib.hid (fun j hj => by omega), Lib.hid (Below.refl _ _)⟩
  case round =>
    obtain ⟨k, hk, rfl, HP, HN⟩ := hrel
    by_cases hlt : k + 1 < n
    case neg =>
      have HB : Hid (risingL xs = true) := Lib.hid (risingL_of (fun j hj => HP.out j (by have := HNX.out; omega) (by have := HNX.out; omega)))
      have q1 : ¬ ((k : Int) + 1 < (n : Int)) := by omega
      go_wp2
      go_ret
      exact ⟨ret_bool HB.out.symm, HN.out⟩
    obtain ⟨b1, o1, _, he, _, _, _⟩ := H1.out.full (by omega)
    simp only [Value.slice.injEq] at he
    obtain ⟨rfl, _, rfl⟩ := he
    obtain ⟨g1, p1⟩ := (H1.out.below HN.out).at1 (show k < n by omega)
    obtain ⟨g2, p2⟩ := (H1.out.below HN.out).at1 hlt
    obtain ⟨x, hx⟩ : ∃ a, a = xs.getD k 0 := ⟨_, rfl⟩
    obtain ⟨y, hy⟩ : ∃ a, a = xs.getD (k + 1) 0 := ⟨_, rfl⟩
    rw [← hx] at p1
    rw [← hy] at p2
    have q0 : (k : Int) + 1 < (n : Int) := by omega
    have q1 : IntKind.i64.wrap ((k : Int) + 1 - 1) = (k : Int) := by rw [show (k : Int) + 1 - 1 = (k : Int) by omega]; exact IntWalk.i64_in _ (by omega)
    have q3 : (k : Int) < (n : Int) := by omega
    by_cases hxy : x < y
    · have HP2 : Hid (∀ j, j < k + 1 → j + 1 < n → xs.getD j 0 < xs.getD (j + 1) 0) := Lib.hid (fun j hj hjn => by
        by_cases e : j = k
        · rw [e, ← hx, ← hy]; exact hxy
        · exact HP.out j (by omega) hjn)
      clear hx hy
      go_wp2_with fail
      go_quiet (fail)
      go_wp2
      go_roundw
      case rel => exact ⟨k + 1, by omega, by go_num, HP2, Lib.hid (below_drewN HN.out _)⟩
      case measure => (simp [intOf]; try omega)
    · have HB : Hid (risingL xs = false) := Lib.hid (by
        cases e : risingL xs
        · rfl
        · exact absurd (risingL_at e k (by have := HNX.out; omega)) (by rw [← hx, ← hy]; exact hxy))
      clear hx hy
      go_wp2_with fail
      go_quiet (fail)
      go_wp2
      go_ret
      exact ⟨ret_bool HB.out.symm, below_drewN HN.out _⟩
end Go.Proofs.Ytkgbkgonlopciaa

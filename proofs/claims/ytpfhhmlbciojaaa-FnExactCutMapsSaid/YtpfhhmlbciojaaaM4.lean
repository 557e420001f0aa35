/- The walks of the laws' helpers: slices of maps sized, copied, compared. -/
import Derived.Test.YtpfhhmlbciojaaaProg
import Derived.Test.YtpfhhmlbciojaaaK
import Derived.Test.YtpfhhmlbciojaaaK2
import Derived.Test.YtpfhhmlbciojaaaK4
import Derived.Deep.QuietTactic
import Derived.BigQuiet
import Derived.Deep.RegionHeld
import Derived.StillTailTactics
namespace Go.Proofs.Ytpfhhmlbciojaaa
open Go.RowKit
set_option linter.unusedVariables false
set_option linter.unusedSimpArgs false
/-- a map as a value -/
def vm (a b c : Int) : Value := .agg #[.int .i64 a, .int .i64 b, .int .i64 c]
theorem szMapS_l (v : Value) (n : Nat) (xs : List Value) (k : Nat) (w : World) (hv : Rd w 3 v n xs) (hk : k ≤ 9223372036854775807) (hn : n ≤ k) :
    Calls Try.prog 24 #[v, .int .i64 (k : Int)] w fun e w' => e = .returned (.int .i64 ((k - n : Nat) : Int)) ∧ w = w' := by
  obtain ⟨A, cap, rfl, hm⟩ := hv.shape
  have e : (k : Int) - (n : Int) = ((k - n : Nat) : Int) := by omega
  clear hv
  go_enter Try.func24, Try.ntmps24
  go_wp2
  go_ret
  exact ⟨ret_int (by omega), rfl⟩
theorem szMapS_l_big (v : Value) (n : Nat) (xs : List Value) (k : Nat) (w : World) (hv : Rd w 3 v n xs) (hk : k ≤ 9223372036854775807) (hn : k < n) :
    Calls Try.prog 24 #[v, .int .i64 (k : Int)] w fun e w' => e = .returned (.int .i64 (-1)) ∧ w = w' := by
  obtain ⟨A, cap, rfl, hm⟩ := hv.shape
  unfold maxLen at hm
  clear hv
  go_enter Try.func24, Try.ntmps24
  go_wp2
  go_ret
  exact ⟨rfl, rfl⟩
theorem eqMap_l (a b c : Int) (w : World) :
    Calls Try.prog 44 #[vm a b c, vm a b c] w fun e w' => e = .returned (.bool true) ∧ Below w.heap.size w w' := by
  unfold vm
  go_enter Try.func44, Try.ntmps44
  go_wp2
  go_ret
  exact ⟨rfl, ((Below.refl _ w).alloc (Nat.le_refl _) _).alloc (by simp) _⟩
theorem toMap_l (a b c : Int) (w : World) :
    Calls Try.prog 42 #[vm a b c] w fun e w' => e = .returned (vm a b c) ∧ Below w.heap.size w w' := by
  unfold vm
  go_enter Try.func42, Try.ntmps42
  go_wp2
  simp only [bodyPost, results, Try.results42]
  go_simp
  exact (((Below.refl _ w).alloc (Nat.le_refl _) _).alloc (by simp) _).alloc (by simp; omega) _
theorem map_info : (Try.prog.info? 59).map (fun i => (i.zero, i.size, i.bytes)) = some (some (vm 0 0 0), 3, 24) := by kernel_rfl
theorem made3 (n : Nat) : (madeCells (vm 0 0 0).cells (n * 3)).toList = (List.replicate (n * 3) (0 : Int)).map vn := by
  unfold madeCells
  apply List.ext_getElem
  · simp
  · intro i h1 h2
    have : i % 3 = 0 ∨ i % 3 = 1 ∨ i % 3 = 2 := by omega
    simp only [Array.toList_map, Array.toList_range, List.getElem_map, List.getElem_range, List.getElem_replicate]
    rw [show (vm 0 0 0).cells = #[.int .i64 0, .int .i64 0, .int .i64 0] from rfl]
    rcases this with h | h | h <;> (simp only [List.size_toArray, List.length_cons, List.length_nil, h]; rfl)
/-- the first j cells copied -/
def preL (xs : List Int) (m j : Nat) : List Int := xs.take j ++ List.replicate (m - j) 0
theorem preL_len {xs : List Int} {m j : Nat} (hm : xs.length = m) (h : j ≤ m) : (preL xs m j).length = m := by simp [preL]; omega
theorem preL_full {xs : List Int} {m : Nat} (hm : xs.length = m) : preL xs m m = xs := by simp [preL, ← hm]
theorem preL_set {xs : List Int} {m j : Nat} (hm : xs.length = m) (h : j < m) : ((preL xs m j).map vn).set j (vn (xs.getD j 0)) = (preL xs m (j + 1)).map vn := by
  have hj : j < xs.length := by omega
  unfold preL
  rw [show m - j = (m - (j + 1)) + 1 by omega, List.replicate_succ, List.map_append, List.map_cons, List.set_append_right _ _ (by simp; omega), List.take_succ_eq_append_getElem hj]
  rw [List.length_map, List.length_take, Nat.min_eq_left (Nat.le_of_lt hj), Nat.sub_self, List.set_cons_zero, List.map_append, List.map_append, List.append_assoc]
  rw [List.getD_eq_getElem?_getD, List.getElem?_eq_getElem hj]
  rfl
theorem getD_vn {xs : List Int} {j : Nat} (h : j < xs.length) : (xs.map vn)[j]? = some (vn (xs.getD j 0)) := by
  rw [List.getElem?_map, List.getD_eq_getElem?_getD, List.getElem?_eq_getElem h]; rfl
theorem Obs.frees {w : World} {B size n g cap : Nat} {xs : List Value} (h : Obs w B size (.slice (some ⟨g, 0, none⟩) n cap) n xs) {j : Nat} (hj : j < n * size) : ∃ u, w.cell? ⟨g, j, none⟩ = some u ∧ w.frozen? ⟨g, j, none⟩ = false := by
  obtain ⟨u, hu⟩ : ∃ u, xs[j]? = some u := ⟨_, List.getElem?_eq_getElem (by rw [h.1]; exact hj)⟩
  exact ⟨u, h.cellAt hu⟩
set_option maxHeartbeats 1600000 in
theorem toMapS_l (v : Value) (n : Nat) (xs : List Int) (w : World) (h : Rd w 3 v n (xs.map vn)) (hn : n ≤ 4294967296) :
    Calls Try.prog 26 #[v] w (GivesRow 3 n (xs.map vn) w) := by
  have hl : xs.length = n * 3 := by have := h.len; simpa using this
  obtain ⟨i0, hi, hz0, hz1, hz2⟩ := info_parts map_info
  have hm : n ≤ maxLen := by unfold maxLen; omega
  have hmk := make_eq (P := Try.prog) 44 59 i0 (vm 0 0 0) Try.underlying44 hi hz0 n (by rw [hz2]; omega) hm
  rw [hz1] at hmk
  have own0 : Obs (w.alloc (.cells (madeCells (vm 0 0 0).cells (n * 3)) 59)) w.heap.size 3 (.slice (some ⟨w.heap.size, 0, none⟩) n n) n ((preL xs (n * 3) 0).map vn) := by
    rw [show (preL xs (n * 3) 0) = List.replicate (n * 3) 0 by simp [preL], ← made3]
    exact Obs.of_own (World.ownsRow_lit (base := w.heap.size) (e := 59) (size := 3) w _ n (Nat.le_refl _) hm (by rw [← Array.length_toList, made3]; simp))
  have HO := Lib.hid own0
  obtain ⟨C, hC⟩ : ∃ C, C = madeCells (vm 0 0 0).cells (n * 3) := ⟨_, rfl⟩
  rw [← hC] at hmk HO
  clear own0 hC
  have HN := Lib.hid ((Below.refl w.heap.size w).alloc (Nat.le_refl _) (.cells C 59))
  have HR := Lib.hid h
  have HL := Lib.hid hl
  clear hl
  by_cases h0 : n = 0
  · obtain ⟨A, ca, rfl, hm⟩ := h.shape
    subst h0
    have hx : xs = [] := List.eq_nil_of_length_eq_zero (by have := HL.out; omega)
    subst hx
    clear h HR
    rw [show ((0 : Nat) : Int) = 0 from rfl] at hmk
    go_enter Try.func26, Try.ntmps26
    go_wp2
    go_loop [4] (fun i => i = .int .i64 0) (fun i => 0)
    case atStart => rfl
    case round =>
      obtain rfl := hrel
      go_wp2
      go_ret
      exact ⟨_, rfl, HO.out, HN.out⟩
  · obtain ⟨b1, o1, c1, rfl, hb1, hm, hc1⟩ := h.full (by omega)
    have HC := Lib.hid hc1
    clear h hc1
    go_enter Try.func26, Try.ntmps26
    go_wp2
    go_loopw [4] (fun i wr => ∃ k : Nat, k ≤ n ∧ i = .int .i64 (k : Int) ∧ Hid (Obs wr w.heap.size 3 (.slice (some ⟨w.heap.size, 0, none⟩) n n) n ((preL xs (n * 3) (k * 3)).map vn)) ∧ Hid (Below w.heap.size w wr)) (fun i _ => n - (intOf i).toNat)
    case atStart => exact ⟨0, Nat.zero_le _, rfl, by simpa using HO, HN⟩
    case round =>
      clear HO HN
      obtain ⟨k, hk, rfl, HO, HN⟩ := hrel
      by_cases hlt : k < n
      · have q0 : wr.cell? ⟨b1, o1 + k * 3, none⟩ = some (.int .i64 (xs.getD (k * 3) 0)) := (HN.out.cell (p := ⟨b1, o1 + k * 3, none⟩) hb1).trans (HC.out (k * 3) _ (getD_vn (by have := HL.out; omega)))
        have q1 : wr.cell? ⟨b1, o1 + k * 3 + 1, none⟩ = some (.int .i64 (xs.getD (k * 3 + 1) 0)) := (HN.out.cell (p := ⟨b1, o1 + k * 3 + 1, none⟩) hb1).trans (HC.out (k * 3 + 1) _ (getD_vn (by have := HL.out; omega)))
        have q2 : wr.cell? ⟨b1, o1 + k * 3 + 2, none⟩ = some (.int .i64 (xs.getD (k * 3 + 2) 0)) := (HN.out.cell (p := ⟨b1, o1 + k * 3 + 2, none⟩) hb1).trans (HC.out (k * 3 + 2) _ (getD_vn (by have := HL.out; omega)))
        obtain ⟨a, ha⟩ : ∃ a, a = xs.getD (k * 3) 0 := ⟨_, rfl⟩
        obtain ⟨b, hb⟩ : ∃ a, a = xs.getD (k * 3 + 1) 0 := ⟨_, rfl⟩
        obtain ⟨c, hc⟩ : ∃ a, a = xs.getD (k * 3 + 2) 0 := ⟨_, rfl⟩
        rw [← ha] at q0
        rw [← hb] at q1
        rw [← hc] at q2
        have HA := Lib.hid ha
        have HB := Lib.hid hb
        have HC2 := Lib.hid hc
        clear ha hb hc
        go_wp2_with fail
        refine (toMap_l a b c wr).mono ?_
        rintro e w2 ⟨rfl, hb2⟩
        have HO1 := Lib.hid (HO.out.below hb2)
        have HN1 := Lib.hid (HN.out.trans (hb2.mono HN.out.size))
        clear hb2 HO HN q0 q1 q2
        obtain ⟨u0, r0, f0⟩ := HO1.out.frees (show k * 3 < n * 3 by omega)
        obtain ⟨u1, r1, f1⟩ := HO1.out.frees (show k * 3 + 1 < n * 3 by omega)
        obtain ⟨u2, r2, f2⟩ := HO1.out.frees (show k * 3 + 2 < n * 3 by omega)
        have H2 := HO1.out.set_ (k * 3) (by omega) (vn (xs.getD (k * 3) 0))
        rw [preL_set HL.out (by omega)] at H2
        have H3 := H2.set_ (k * 3 + 1) (by omega) (vn (xs.getD (k * 3 + 1) 0))
        rw [preL_set HL.out (by omega)] at H3
        have H4 := H3.set_ (k * 3 + 2) (by omega) (vn (xs.getD (k * 3 + 2) 0))
        rw [preL_set HL.out (by omega), ← HA.out, ← HB.out, ← HC2.out] at H4
        have HO2 := Lib.hid H4
        have HN2 := Lib.hid (((HN1.out.setCell (p := ⟨w.heap.size, k * 3, none⟩) (Nat.le_refl _) (vn a)).setCell (p := ⟨w.heap.size, k * 3 + 1, none⟩) (Nat.le_refl _) (vn b)).setCell (p := ⟨w.heap.size, k * 3 + 2, none⟩) (Nat.le_refl _) (vn c))
        clear HO1 HN1 H2 H3 H4
        unfold vm
        go_wp2
        go_roundw
        case rel => exact ⟨k + 1, by omega, by go_num, by rw [show (k + 1) * 3 = k * 3 + 2 + 1 by omega]; exact HO2, HN2⟩
        case measure => (simp [intOf]; try omega)
      · obtain rfl : k = n := by omega
        have H2 : Hid (Obs wr w.heap.size 3 (.slice (some ⟨w.heap.size, 0, none⟩) k k) k (xs.map vn)) := Lib.hid (by have h2 := HO.out; rw [preL_full HL.out] at h2; exact h2)
        go_wp2
        go_ret
        exact ⟨_, rfl, H2.out, HN.out⟩
theorem six_keep {w w1 w2 : World} {b o b' o' : Nat} {x y z x' y' z' : Value} (hb : b < w.heap.size) (hb' : b' < w.heap.size)
    (e0 : w.cell? ⟨b, o, none⟩ = some x) (e1 : w.cell? ⟨b, o + 1, none⟩ = some y) (e2 : w.cell? ⟨b, o + 2, none⟩ = some z) (e3 : w.cell? ⟨b', o', none⟩ = some x') (e4 : w.cell? ⟨b', o' + 1, none⟩ = some y') (e5 : w.cell? ⟨b', o' + 2, none⟩ = some z')
    (h : Below w.heap.size w w1) (h2 : Below w1.heap.size w1 w2) :
    w2.cell? ⟨b, o, none⟩ = some x ∧ w2.cell? ⟨b, o + 1, none⟩ = some y ∧ w2.cell? ⟨b, o + 2, none⟩ = some z ∧ w2.cell? ⟨b', o', none⟩ = some x' ∧ w2.cell? ⟨b', o' + 1, none⟩ = some y' ∧ w2.cell? ⟨b', o' + 2, none⟩ = some z' ∧ Below w.heap.size w w2 :=
  have h3 := h.trans (h2.mono h.size)
  ⟨(h3.cell (p := ⟨b, o, none⟩) hb).trans e0, (h3.cell (p := ⟨b, o + 1, none⟩) hb).trans e1, (h3.cell (p := ⟨b, o + 2, none⟩) hb).trans e2, (h3.cell (p := ⟨b', o', none⟩) hb').trans e3, (h3.cell (p := ⟨b', o' + 1, none⟩) hb').trans e4, (h3.cell (p := ⟨b', o' + 2, none⟩) hb').trans e5, h3⟩
/-- the three cells of element k -/
theorem Rd.three {w : World} {n b o cap : Nat} {xs : List Int} (h : Rd w 3 (.slice (some ⟨b, o, none⟩) n cap) n (xs.map vn)) {k : Nat} (hk : k < n) :
    b < w.heap.size ∧ w.cell? ⟨b, o + k * 3, none⟩ = some (.int .i64 (xs.getD (k * 3) 0)) ∧ w.cell? ⟨b, o + k * 3 + 1, none⟩ = some (.int .i64 (xs.getD (k * 3 + 1) 0)) ∧ w.cell? ⟨b, o + k * 3 + 2, none⟩ = some (.int .i64 (xs.getD (k * 3 + 2) 0)) := by
  have hl : xs.length = n * 3 := by have := h.len; simpa using this
  obtain ⟨_, _, _, e, hb, _, hc⟩ := h.full (by omega)
  simp only [Value.slice.injEq, Option.some.injEq, Addr.mk.injEq] at e
  obtain ⟨⟨rfl, rfl, _⟩, _, _⟩ := e
  exact ⟨hb, hc _ _ (getD_vn (by omega)), hc (k * 3 + 1) _ (getD_vn (by omega)), hc (k * 3 + 2) _ (getD_vn (by omega))⟩
set_option maxHeartbeats 1600000 in
theorem eqMapS_l (a b : Value) (n : Nat) (xs : List Int) (w : World) (ha : Rd w 3 a n (xs.map vn)) (hb : Rd w 3 b n (xs.map vn)) :
    Calls Try.prog 28 #[a, b] w fun e w' => e = .returned (.bool true) ∧ Below w.heap.size w w' := by
  by_cases h0 : n = 0
  · obtain ⟨A, ca, rfl, hm⟩ := ha.shape
    obtain ⟨A', cb, rfl, _⟩ := hb.shape
    subst h0
    clear ha hb
    go_enter Try.func28, Try.ntmps28
    go_wp2
    go_loop [5] (fun i => i = .int .i64 0) (fun i => 0)
    case atStart => rfl
    case round =>
      obtain rfl := hrel
      go_wp2
      go_ret
      exact ⟨rfl, Below.refl _ _⟩
  · obtain ⟨b1, o1, c1, rfl, hb1, hm, hc1⟩ := ha.full (by omega)
    obtain ⟨b2, o2, c2, rfl, hb2, _, hc2⟩ := hb.full (by omega)
    unfold maxLen at hm
    have HA := Lib.hid ha
    have HB := Lib.hid hb
    clear ha hb hc1 hc2
    go_enter Try.func28, Try.ntmps28
    go_wp2
    go_loopw [5] (fun i wr => ∃ k : Nat, k ≤ n ∧ i = .int .i64 (k : Int) ∧ Hid (Below w.heap.size w wr)) (fun i _ => n - (intOf i).toNat)
    case atStart => exact ⟨0, Nat.zero_le _, rfl, Lib.hid (Below.refl _ _)⟩
    case round =>
      obtain ⟨k, hk, rfl, HN⟩ := hrel
      by_cases hlt : k < n
      · obtain ⟨g1, p0, p1, p2⟩ := (HA.out.below HN.out).three hlt
        obtain ⟨g2, q0, q1, q2⟩ := (HB.out.below HN.out).three hlt
        obtain ⟨x, hx⟩ : ∃ a, a = xs.getD (k * 3) 0 := ⟨_, rfl⟩
        obtain ⟨y, hy⟩ : ∃ a, a = xs.getD (k * 3 + 1) 0 := ⟨_, rfl⟩
        obtain ⟨z, hz⟩ : ∃ a, a = xs.getD (k * 3 + 2) 0 := ⟨_, rfl⟩
        rw [← hx] at p0 q0
        rw [← hy] at p1 q1
        rw [← hz] at p2 q2
        clear hx hy hz
        go_wp2_with fail
        refine wp_region_held_drew (S := fun w' => w'.cell? ⟨b1, o1 + k * 3, none⟩ = some (.int .i64 x) ∧ w'.cell? ⟨b1, o1 + k * 3 + 1, none⟩ = some (.int .i64 y) ∧ w'.cell? ⟨b1, o1 + k * 3 + 2, none⟩ = some (.int .i64 z) ∧ w'.cell? ⟨b2, o2 + k * 3, none⟩ = some (.int .i64 x) ∧ w'.cell? ⟨b2, o2 + k * 3 + 1, none⟩ = some (.int .i64 y) ∧ w'.cell? ⟨b2, o2 + k * 3 + 2, none⟩ = some (.int .i64 z) ∧ Below wr.heap.size wr w') (by kernel_rfl) ⟨p0, p1, p2, q0, q1, q2, (Below.refl _ wr).drew⟩ (fun hHeld => ?_)
        refine wpAnyH_take (i := 0) (v := ?_) rfl (by kernel_rfl) (by kernel_rfl) (by kernel_rfl) (fun _ _ _ h => h) (Or.inl ⟨by rfl, ?_⟩) (by assumption) ?_
        rotate_left
        · (intro w hSw; (try dsimp only at hSw); go_simp; try (with_reducible rfl))
        try simp only [Act.put, List.setIfInBounds_toArray, List.set_cons_zero, List.set_cons_succ]
        refine wpAnyH_take (i := 1) (v := ?_) rfl (by kernel_rfl) (by kernel_rfl) (by kernel_rfl) (fun _ _ _ h => h) (Or.inl ⟨by rfl, ?_⟩) (by assumption) ?_
        rotate_left
        · (intro w hSw; (try dsimp only at hSw); go_simp; try (with_reducible rfl))
        try simp only [Act.put, List.setIfInBounds_toArray, List.set_cons_zero, List.set_cons_succ]
        refine wpAnyH_take (i := 2) (v := ?_) rfl (by kernel_rfl) (by kernel_rfl) (by kernel_rfl) (fun _ _ _ h => h) (Or.inl ⟨by rfl, ?_⟩) (by assumption) ?_
        rotate_left
        · (intro w hSw; (try dsimp only at hSw); go_simp; try (with_reducible rfl))
        try simp only [Act.put, List.setIfInBounds_toArray, List.set_cons_zero, List.set_cons_succ]
        refine wpAnyH_take (i := 3) (v := ?_) rfl (by kernel_rfl) (by kernel_rfl) (by kernel_rfl) (fun _ _ _ h => h) (Or.inl ⟨by rfl, ?_⟩) (by assumption) ?_
        rotate_left
        · (intro w hSw; (try dsimp only at hSw); go_simp; try (with_reducible rfl))
        try simp only [Act.put, List.setIfInBounds_toArray, List.set_cons_zero, List.set_cons_succ]
        refine wpAnyH_take (i := 4) (v := ?_) rfl (by kernel_rfl) (by kernel_rfl) (by kernel_rfl) (fun _ _ _ h => h) (Or.inl ⟨by rfl, ?_⟩) (by assumption) ?_
        rotate_left
        · (intro w hSw; (try dsimp only at hSw); go_simp; try (with_reducible rfl))
        try simp only [Act.put, List.setIfInBounds_toArray, List.set_cons_zero, List.set_cons_succ]
        refine wpAnyH_take (i := 5) (v := ?_) rfl (by kernel_rfl) (by kernel_rfl) (by kernel_rfl) (fun _ _ _ h => h) (Or.inl ⟨by rfl, ?_⟩) (by assumption) ?_
        rotate_left
        · (intro w hSw; (try dsimp only at hSw); go_simp; try (with_reducible rfl))
        try simp only [Act.put, List.setIfInBounds_toArray, List.set_cons_zero, List.set_cons_succ]
        refine wpAnyH_take (i := 6) (v := ?_) rfl (by kernel_rfl) (by kernel_rfl) (by kernel_rfl) (fun _ _ _ h => h) (Or.inl ⟨by rfl, ?_⟩) (by assumption) ?_
        rotate_left
        · (intro w hSw; (try dsimp only at hSw); go_simp; try (with_reducible rfl))
        try simp only [Act.put, List.setIfInBounds_toArray, List.set_cons_zero, List.set_cons_succ]
        refine wpAnyH_take (i := 7) (v := ?_) rfl (by kernel_rfl) (by kernel_rfl) (by kernel_rfl) (fun _ _ _ h => h) (Or.inl ⟨by rfl, ?_⟩) (by assumption) ?_
        rotate_left
        · (intro w hSw; (try dsimp only at hSw); go_simp; try (with_reducible rfl))
        try simp only [Act.put, List.setIfInBounds_toArray, List.set_cons_zero, List.set_cons_succ]
        refine wpAnyH_ready (rs := [8]) (by kernel_rfl) (by simp) ?_
        refine AllReadyH.cons rfl (fun K hK => ?_) AllReadyH.nil
        go_simp
        (go_at_call 44; refine (eqMap_l x y z _).mono ?_; rintro e w2 ⟨rfl, hw2⟩)
        try go_wp2_with fail
        refine hK.out _ _ ?_ (fun hHeld => ?_)
        · exact six_keep g1 g2 p0 p1 p2 q0 q1 q2 (Below.refl _ wr).drew hw2
        clear hK K
        try simp only [Act.put, List.setIfInBounds_toArray, List.set_cons_zero, List.set_cons_succ]
        refine wpAnyH_take (i := 9) (v := ?_) rfl (by kernel_rfl) (by kernel_rfl) (by kernel_rfl) (fun _ _ _ h => h) (Or.inl ⟨by rfl, ?_⟩) (by assumption) ?_
        rotate_left
        · (intro w hSw; (try dsimp only at hSw); go_simp; try (with_reducible rfl))
        try simp only [Act.put, List.setIfInBounds_toArray, List.set_cons_zero, List.set_cons_succ]
        refine wpAnyH_done (by kernel_rfl) ?_ _
        have HN2 : Hid (Below w.heap.size w w2) := Lib.hid (HN.out.trans ((Below.trans (Below.refl _ wr).drew hw2).mono HN.out.size))
        clear HN hw2 p0 p1 p2 q0 q1 q2 hHeld
        go_wp2
        go_roundw
        case rel => exact ⟨k + 1, by omega, by go_num, HN2⟩
        case measure => (simp [intOf]; try omega)
      · obtain rfl : k = n := by omega
        go_wp2
        go_ret
        exact ⟨rfl, HN.out⟩
end Go.Proofs.Ytpfhhmlbciojaaa

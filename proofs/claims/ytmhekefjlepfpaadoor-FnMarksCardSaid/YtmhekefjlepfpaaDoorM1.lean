/- The walks of the laws' helpers: slices of numbers compared, marked, looked at again, copied. -/
import Derived.Test.YtmhekefjlepfpaaDoorProg
import Derived.Test.YtmhekefjlepfpaaDoorK
import Derived.Test.YtmhekefjlepfpaaDoorK2
import Derived.Test.YtmhekefjlepfpaaDoorK4
import Derived.Deep.QuietTactic
import Derived.BigQuiet
import Derived.RegionTactic
import Derived.StillTailTactics
namespace Go.Proofs.YtmhekefjlepfpaaDoor
open Go.RowKit
set_option linter.unusedVariables false
set_option linter.unusedSimpArgs false

theorem i64_info : (Tryd.prog.info? 3).map (fun i => (i.zero, i.size, i.bytes)) = some (some (.int .i64 0), 1, 8) := by kernel_rfl

set_option maxRecDepth 100000 in
theorem eqIntS_l (a b : Value) (n : Nat) (xs : List Int) (w : World) (ha : Rd w 1 a n (xs.map vn)) (hb : Rd w 1 b n (xs.map vn)) :
    Calls Tryd.prog 23 #[a, b] w fun e w' => e = .returned (.bool true) ∧ Below w.heap.size w w' := by
  have hl : xs.length = n := by have := ha.len; simpa using this
  by_cases h0 : n = 0
  · obtain ⟨A, ca, rfl, hm⟩ := ha.shape
    obtain ⟨A', cb, rfl, _⟩ := hb.shape
    subst h0
    clear ha hb hl
    go_enter Tryd.func23, Tryd.ntmps23
    go_wp2
    go_loop [5] (fun i => i = .int .i64 0) (fun i => 0)
    case atStart => rfl
    case round =>
      obtain rfl := hrel
      go_wp2
      go_ret
      exact ⟨rfl, Below.refl _ _⟩
  · obtain ⟨b1, o1, c1, rfl, hb1, hm, hc1⟩ := ha.full (by omega)
    obtain ⟨b2, o2, c2, rfl, hb2, _, hc2⟩ := hb.full (by omega)
    unfold maxLen at hm
    have HA := Lib.hid ha
    have HB := Lib.hid hb
    have HL := Lib.hid hl
    clear ha hb hl hc1 hc2
    go_enter Tryd.func23, Tryd.ntmps23
    go_wp2
    go_loopw [5] (fun i wr => ∃ k : Nat, k ≤ n ∧ i = .int .i64 (k : Int) ∧ Below w.heap.size w wr) (fun i _ => n - (intOf i).toNat)
    case atStart => exact ⟨0, Nat.zero_le _, rfl, Below.refl _ _⟩
    case round =>
      obtain ⟨k, hk, rfl, hnx⟩ := hrel
      by_cases hlt : k < n
      · have hx : (xs.map vn)[k]? = some (vn (xs[k]'(by have := HL.out; omega))) := getElem?_map_vn _ _ _
        have e1 : wr.cell? ⟨b1, o1 + k, none⟩ = some (.int .i64 (xs[k]'(by have := HL.out; omega))) := by
          obtain ⟨_, _, _, e, _, _, h⟩ := (HA.out.below hnx).full (by omega)
          simp only [Value.slice.injEq, Option.some.injEq, Addr.mk.injEq] at e
          obtain ⟨⟨rfl, rfl, _⟩, _, _⟩ := e
          exact h k _ hx
        have e2 : wr.cell? ⟨b2, o2 + k, none⟩ = some (.int .i64 (xs[k]'(by have := HL.out; omega))) := by
          obtain ⟨_, _, _, e, _, _, h⟩ := (HB.out.below hnx).full (by omega)
          simp only [Value.slice.injEq, Option.some.injEq, Addr.mk.injEq] at e
          obtain ⟨⟨rfl, rfl, _⟩, _, _⟩ := e
          exact h k _ hx
        obtain ⟨x, hxx⟩ : ∃ x, x = xs[k]'(by have := HL.out; omega) := ⟨_, rfl⟩
        rw [← hxx] at e1 e2
        clear hxx hx
        go_wp2
        go_quiet (fail)
        go_wp2
        go_roundw
        case rel => exact ⟨k + 1, by omega, by go_num, below_drewN hnx _⟩
        case measure => simp [intOf]; omega
      · obtain rfl : k = n := by omega
        go_wp2
        go_ret
        exact ⟨rfl, hnx⟩
/-- the numbers from k on -/
def marks (k : Int) (n : Nat) : List Int := (List.range n).map fun (i : Nat) => k + (i : Int)
theorem marks_len (k : Int) (n : Nat) : (marks k n).length = n := by simp [marks]
theorem marks_get {k : Int} {n j : Nat} (h : j < n) : (marks k n)[j]? = some (k + j) := by simp [marks, h]
theorem marks_set {k : Int} {n j : Nat} {xs : List Int} (hl : xs.length = n) (h : j < n) :
    (((marks k j ++ xs.drop j).map vn).set j (vn (k + j))) = (marks k (j + 1) ++ xs.drop (j + 1)).map vn := by
  rw [List.drop_eq_getElem_cons (by omega), List.map_append, List.map_cons, List.set_append_right _ _ (by simp [marks_len])]
  simp [marks, List.range_succ]
set_option maxRecDepth 100000 in
theorem markIntS_l (v : Value) (n : Nat) (xs : List Int) (k : Nat) (B : Nat) (w : World) (hB : B ≤ w.heap.size) (h : Obs w B 1 v n (xs.map vn)) (hn : n ≤ 4294967296) (hk : k ≤ 4294967296) :
    Calls Tryd.prog 24 #[v, .int .i64 k] w fun e w' => e = .returned (.int .i64 (k + n : Nat)) ∧ Obs w' B 1 v n ((marks k n).map vn) ∧ Only w w' v := by
  have hl : xs.length = n := by have := h.1; simpa using this
  by_cases h0 : n = 0
  · obtain ⟨A, ca, rfl⟩ := h.shape
    subst h0
    have hx : xs = [] := List.eq_nil_of_length_eq_zero hl
    subst hx
    have H := Lib.hid h
    clear h hl
    go_enter Tryd.func24, Tryd.ntmps24
    go_wp2
    go_loop [1, 5] (fun m i => i = .int .i64 0 ∧ m = .int .i64 (k : Int)) (fun m i => 0)
    case atStart => exact ⟨rfl, rfl⟩
    case round =>
      obtain ⟨rfl, rfl⟩ := hrel
      go_wp2
      go_ret
      exact ⟨rfl, H.out, Only.refl _ _⟩
  · obtain ⟨g, cap, rfl⟩ := h.full (by omega)
    have hgB := (h.lt g rfl).1
    have H0 := Lib.hid h
    have HL := Lib.hid hl
    clear h hl
    go_enter Tryd.func24, Tryd.ntmps24
    go_wp2
    go_loopw [1, 5] (fun m i wr => ∃ j : Nat, j ≤ n ∧ i = .int .i64 (j : Int) ∧ m = .int .i64 ((k : Int) + (j : Int)) ∧ Hid (Obs wr B 1 (.slice (some ⟨g, 0, none⟩) n cap) n ((marks k j ++ xs.drop j).map vn)) ∧ Hid (Only w wr (.slice (some ⟨g, 0, none⟩) n cap))) (fun _ i _ => n - (intOf i).toNat)
    case atStart => exact ⟨0, Nat.zero_le _, rfl, by simp, Lib.hid (by simpa [marks] using H0.out), Lib.hid (Only.refl _ _)⟩
    case round =>
      clear H0
      obtain ⟨j, hj, rfl, rfl, H, HO⟩ := hrel
      by_cases hlt : j < n
      · obtain ⟨u, hu⟩ : ∃ u, ((marks k j ++ xs.drop j).map vn)[j]? = some u := ⟨_, List.getElem?_eq_getElem (by simp [marks_len]; have := HL.out; omega)⟩
        obtain ⟨hcell, hfr⟩ := H.out.cellAt hu
        clear hu
        have H2 := Lib.hid (H.out.set_ j (by omega) (vn ((k : Int) + j)))
        rw [marks_set HL.out hlt] at H2
        have HO2 := Lib.hid (HO.out.set_ (g := g) rfl j (vn ((k : Int) + j)))
        clear H HO
        go_wp2
        go_roundw
        case rel => exact ⟨j + 1, by omega, by go_num, by go_num, H2, HO2⟩
        case measure => simp [intOf]; omega
      · obtain rfl : j = n := by omega
        have H2 : Hid (Obs wr B 1 (.slice (some ⟨g, 0, none⟩) j cap) j ((marks k j).map vn)) := Lib.hid (by have h2 := H.out; rw [List.drop_of_length_le (by have := HL.out; omega), List.append_nil] at h2; exact h2)
        go_wp2
        go_ret
        exact ⟨ret_int (by simp), H2.out, HO.out⟩
set_option maxRecDepth 100000 in
theorem heldIntS_l (v : Value) (n : Nat) (k : Nat) (w : World) (h : Rd w 1 v n ((marks k n).map vn)) (hn : n ≤ 4294967296) (hk : k ≤ 4294967296) :
    Calls Tryd.prog 25 #[v, .int .i64 k] w fun e w' => e = .returned (.int .i64 (k + n : Nat)) ∧ w = w' := by
  by_cases h0 : n = 0
  · obtain ⟨A, ca, rfl, _⟩ := h.shape
    subst h0
    clear h
    go_enter Tryd.func25, Tryd.ntmps25
    go_wp2
    go_loop [1, 5] (fun m i => i = .int .i64 0 ∧ m = .int .i64 (k : Int)) (fun m i => 0)
    case atStart => exact ⟨rfl, rfl⟩
    case round =>
      obtain ⟨rfl, rfl⟩ := hrel
      go_wp2
      go_ret
      exact ⟨rfl, rfl⟩
  · obtain ⟨b1, o1, c1, rfl, hb1, hm, hc1⟩ := h.full (by omega)
    have HC := Lib.hid hc1
    clear h hc1
    go_enter Tryd.func25, Tryd.ntmps25
    go_wp2
    go_loop [1, 5] (fun m i => ∃ j : Nat, j ≤ n ∧ i = .int .i64 (j : Int) ∧ m = .int .i64 ((k : Int) + (j : Int))) (fun _ i => n - (intOf i).toNat)
    case atStart => exact ⟨0, Nat.zero_le _, rfl, by simp⟩
    case round =>
      obtain ⟨j, hj, rfl, rfl⟩ := hrel
      by_cases hlt : j < n
      · have e1 : w.cell? ⟨b1, o1 + j, none⟩ = some (.int .i64 ((k : Int) + j)) := HC.out j _ (by rw [List.getElem?_map, marks_get hlt]; rfl)
        go_wp2
        go_round
        case rel => exact ⟨j + 1, by omega, by go_num, by go_num⟩
        case measure => simp [intOf]; omega
      · obtain rfl : j = n := by omega
        go_wp2
        go_ret
        exact ⟨ret_int (by simp), rfl⟩
set_option maxRecDepth 100000 in
theorem toIntS_l (v : Value) (n : Nat) (xs : List Int) (w : World) (h : Rd w 1 v n (xs.map vn)) (hn : n ≤ 4294967296) :
    Calls Tryd.prog 35 #[v] w (GivesRow 1 n (xs.map vn) w) := by
  have hl : xs.length = n := by have := h.len; simpa using this
  obtain ⟨i0, hi, hz0, hz1, hz2⟩ := info_parts i64_info
  have hm : n ≤ maxLen := by unfold maxLen; omega
  have hmk := make_eq (P := Tryd.prog) 22 3 i0 (.int .i64 0) Tryd.underlying22 hi hz0 n (by rw [hz2]; omega) hm
  rw [hz1] at hmk
  have e0 : (madeCells (Value.int IntKind.i64 0).cells (n * 1)).toList = (List.replicate n (0 : Int)).map vn := by
    rw [show (Value.int IntKind.i64 0).cells = #[.int .i64 0] from rfl, toList_madeCells_one]
    simp [vn]
  have own0 : Obs (w.alloc (.cells (madeCells (Value.int IntKind.i64 0).cells (n * 1)) 3)) w.heap.size 1 (.slice (some ⟨w.heap.size, 0, none⟩) n n) n ((List.replicate n (0 : Int)).map vn) := by
    rw [← e0]
    exact Obs.of_own (World.ownsRow_lit (base := w.heap.size) (e := 3) (size := 1) w _ n (Nat.le_refl _) hm (by rw [← Array.length_toList, e0]; simp))
  have HO := Lib.hid own0
  obtain ⟨C, hC⟩ : ∃ C, C = madeCells (Value.int IntKind.i64 0).cells (n * 1) := ⟨_, rfl⟩
  rw [← hC] at hmk HO
  clear e0 own0 hC
  have hnx : Below w.heap.size w (w.alloc (.cells C 3)) := (Below.refl _ _).alloc (Nat.le_refl _) _
  have HN := Lib.hid hnx
  have HR := Lib.hid h
  have HL := Lib.hid hl
  clear hl hnx
  by_cases h0 : n = 0
  · obtain ⟨A, ca, rfl, hm⟩ := h.shape
    subst h0
    have hx : xs = [] := List.eq_nil_of_length_eq_zero HL.out
    subst hx
    clear h HR
    rw [show ((0 : Nat) : Int) = 0 from rfl] at hmk
    go_enter Tryd.func35, Tryd.ntmps35
    go_wp2
    go_loop [4] (fun i => i = .int .i64 0) (fun i => 0)
    case atStart => rfl
    case round =>
      obtain rfl := hrel
      go_wp2
      go_ret
      exact ⟨_, rfl, HO.out, HN.out⟩
  · obtain ⟨b1, o1, c1, rfl, hb1, hm, hc1⟩ := h.full (by omega)
    clear h hc1
    go_enter Tryd.func35, Tryd.ntmps35
    go_wp2
    go_loopw [4] (fun i wr => ∃ k : Nat, k ≤ n ∧ i = .int .i64 (k : Int) ∧ Hid (Obs wr w.heap.size 1 (.slice (some ⟨w.heap.size, 0, none⟩) n n) n ((xs.take k ++ List.replicate (n - k) 0).map vn)) ∧ Hid (Below w.heap.size w wr)) (fun i _ => n - (intOf i).toNat)
    case atStart => exact ⟨0, Nat.zero_le _, rfl, Lib.hid (by simpa using HO.out), HN⟩
    case round =>
      clear HO HN
      obtain ⟨k, hk, rfl, HO, HN⟩ := hrel
      by_cases hlt : k < n
      · have hkx : k < xs.length := by have := HL.out; omega
        have e1 : wr.cell? ⟨b1, o1 + k, none⟩ = some (.int .i64 (xs[k]'hkx)) := by
          obtain ⟨_, _, _, e, _, _, h⟩ := (HR.out.below HN.out).full (by omega)
          simp only [Value.slice.injEq, Option.some.injEq, Addr.mk.injEq] at e
          obtain ⟨⟨rfl, rfl, _⟩, _, _⟩ := e
          exact h k _ (getElem?_map_vn _ _ _)
        obtain ⟨u, hu⟩ : ∃ u, ((xs.take k ++ List.replicate (n - k) 0).map vn)[k]? = some u := ⟨_, List.getElem?_eq_getElem (by simp; omega)⟩
        obtain ⟨hcell, hfr⟩ := HO.out.cellAt hu
        clear hu
        have hset : (((xs.take k ++ List.replicate (n - k) 0).map vn).set k (vn (xs[k]'hkx))) = (xs.take (k + 1) ++ List.replicate (n - (k + 1)) 0).map vn := by
          rw [show n - k = (n - (k + 1)) + 1 by omega, List.replicate_succ, List.map_append, List.map_cons, List.set_append_right _ _ (by simp; omega), List.take_succ_eq_append_getElem hkx]
          rw [List.length_map, List.length_take, Nat.min_eq_left (Nat.le_of_lt hkx), Nat.sub_self, List.set_cons_zero, List.map_append, List.map_append, List.append_assoc]
          rfl
        have H2 := HO.out.set_ k (by omega) (vn (xs[k]'hkx))
        rw [hset] at H2
        have HO2 := Lib.hid H2
        have HN2 := Lib.hid (HN.out.setCell (p := ⟨w.heap.size, k, none⟩) (Nat.le_refl _) (vn (xs[k]'hkx)))
        clear HO HN H2 hset
        obtain ⟨x, hxx⟩ : ∃ x, x = xs[k]'hkx := ⟨_, rfl⟩
        rw [← hxx] at e1 HO2 HN2
        clear hxx
        go_wp2
        go_roundw
        case rel => exact ⟨k + 1, by omega, by go_num, HO2, HN2⟩
        case measure => simp [intOf]; omega
      · obtain rfl : k = n := by omega
        have H2 : Hid (Obs wr w.heap.size 1 (.slice (some ⟨w.heap.size, 0, none⟩) k k) k (xs.map vn)) := Lib.hid (by have h2 := HO.out; rw [List.take_of_length_le (by have := HL.out; omega), Nat.sub_self, List.replicate_zero, List.append_nil] at h2; exact h2)
        go_wp2
        go_ret
        exact ⟨_, rfl, H2.out, HN.out⟩
end Go.Proofs.YtmhekefjlepfpaaDoor

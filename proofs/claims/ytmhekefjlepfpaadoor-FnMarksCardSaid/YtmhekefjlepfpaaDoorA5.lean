/- The walks: NumAt. -/
import Derived.Test.YtmhekefjlepfpaaDoorProg
import Derived.Test.YtmhekefjlepfpaaDoorK
import Derived.Test.YtmhekefjlepfpaaDoorK2
import Derived.Test.YtmhekefjlepfpaaDoorA1
import Derived.Test.YtmhekefjlepfpaaDoorA2
import Derived.LoopN
namespace Go.Proofs.YtmhekefjlepfpaaDoor
open Go.RowKit
set_option linter.unusedVariables false
set_option linter.unusedSimpArgs false

set_option maxRecDepth 100000 in
theorem numAt_i_yes (s : ByteArray) (A M : Nat) (w : World) (hs : s.size ≤ 9223372036854775807) (h1 : 1 ≤ M) (h6 : M ≤ 6) (h : A + M ≤ s.size) :
    Calls Tryd.prog 79 #[.string s, .int .i64 A, .int .i64 M] w fun e w' => e = .returned (.tuple #[.int .i64 (ofBe (s.extract A (A + M)).data.toList : Nat), .bool true]) ∧ Below w.heap.size w w' := by
  have hx : (A : Int) ≤ (s.size : Int) - M := by omega
  obtain ⟨t, ht⟩ : ∃ t, t = s.extract A (A + M) := ⟨_, rfl⟩
  have hts := ext_size h
  rw [← ht] at hts
  obtain ⟨cap, hcap1, hcap2, hcv⟩ : ∃ cap, t.size ≤ cap ∧ cap ≤ maxLen ∧ Sem.run Tryd.prog (convert 9 44 (.string (s.extract A (A + M)))) w = .ok (.slice (some ⟨w.heap.size, 0, none⟩) M cap) (w.drew.alloc (.cells (bytesRow t cap) 5 ((bytesRow t cap).size, (bytesRow t cap).size + 1))) := by
    rw [← ht, ← hts]
    exact ⟨_, grownCap_ge _ _ _ _, grownCap_le_maxLen _ _ _ _ (by unfold maxLen; omega), run_bytes_of_string (P := Tryd.prog) w 9 44 5 t Tryd.underlying9 Tryd.underlying44 Tryd.underlying5⟩
  have ho := obs_bytes w.drew w.heap.size 5 t cap hcap1 hcap2 (Nat.le_refl _)
  rw [hts] at ho
  rw [← ht]
  have HT := Lib.hid hts
  have hc1 : ∀ k (hk : k < t.size), (w.drew.alloc (.cells (bytesRow t cap) 5 ((bytesRow t cap).size, (bytesRow t cap).size + 1))).cell? ⟨w.heap.size, k, none⟩ = some (vb t[k]) := fun k hk => by
    have e : (w.drew.alloc (.cells (bytesRow t cap) 5 ((bytesRow t cap).size, (bytesRow t cap).size + 1))).cell? ⟨w.drew.heap.size, k, none⟩ = _ := World.cell?_alloc_mark w.drew (bytesRow t cap) 5 _ k
    rw [show w.heap.size = w.drew.heap.size from rfl, e]
    unfold bytesRow
    simp [Array.getElem?_append, hk, vb]
    rfl
  have HC1 := Lib.hid hc1
  clear hc1 hts ho ht
  go_enter Tryd.func79, Tryd.ntmps79
  go_wp2
  go_loopw [8, 34] (fun n i wr => ∃ k : Nat, k ≤ M ∧ i = .int .i64 (k : Int) ∧ n = .int .i64 (ofBe (t.data.toList.take k) : Nat) ∧ Hid (∀ j (hj : j < t.size), wr.cell? ⟨w.heap.size, j, none⟩ = some (vb t[j])) ∧ Below w.heap.size w wr) (fun _ i _ => M - (intOf i).toNat)
  case atStart => exact ⟨0, Nat.zero_le _, rfl, rfl, HC1, (Below.refl _ w).drew.alloc (Nat.le_refl _) _⟩
  case round =>
    clear HC1
    obtain ⟨k, hk, rfl, rfl, HC, hnx⟩ := hrel
    by_cases hlt : k < M
    · have hkt : k < t.size := by rw [HT.out]; exact hlt
      have hcell := HC.out k hkt
      have hx1 := t[k].toNat_lt
      have hb := ofBe_small (l := t.data.toList.take k) (by simp; omega)
      have hor := or_byte (ofBe (t.data.toList.take k)) t[k].toNat (by omega) hx1
      have HS := Lib.hid (ofBe_snoc (t.data.toList.take k) t[k])
      have HTS := Lib.hid (take_succ_bytes t k hkt)
      unfold vb at hcell
      go_wp2
      go_roundw
      case rel => exact ⟨k + 1, hlt, by go_num, by rw [HTS.out, HS.out]; go_num, HC, hnx⟩
      case measure => simp [intOf]; omega
    · obtain rfl : k = M := by omega
      have HE := Lib.hid (show t.data.toList.take k = t.data.toList from List.take_of_length_le (by have := HT.out; simp; omega))
      go_wp2
      go_ret2
      exact ⟨ret_two (congrArg (Value.int .i64) (by rw [HE.out])) rfl, hnx⟩
set_option maxRecDepth 100000 in
theorem numAt_i_no (s : ByteArray) (a wd : Int) (w : World) (hs : s.size ≤ 9223372036854775807) (h : numAtB s a wd = false) :
    Calls Tryd.prog 79 #[.string s, .int .i64 a, .int .i64 wd] w fun e w' => e = .returned (.tuple #[.int .i64 0, .bool false]) ∧ w = w' := by
  rcases numAtB_no h with h | h | ⟨h1, h6, h | ⟨h, h2, h3⟩, _⟩
  all_goals
    go_enter Tryd.func79, Tryd.ntmps79
    go_wp2
    all_goals
      go_ret2
      exact ⟨rfl, rfl⟩
set_option maxRecDepth 100000 in
theorem numAt_i (s : ByteArray) (a wd : Int) (w : World) (hs : s.size ≤ 9223372036854775807) :
    Calls Tryd.prog 79 #[.string s, .int .i64 a, .int .i64 wd] w fun e w' => e = .returned (.tuple #[.int .i64 (numAtN s a wd : Nat), .bool (numAtB s a wd)]) ∧ Below w.heap.size w w' := by
  cases h : numAtB s a wd
  · rw [numAtN_no h]; exact (numAt_i_no s a wd w hs h).mono fun _ _ ⟨h1, h2⟩ => ⟨h1, h2 ▸ Below.refl _ _⟩
  · obtain ⟨A, M, rfl, rfl, h1, h6, hAM⟩ := numAtB_yes h
    rw [numAtN_mk h1 h6 hAM]; exact numAt_i_yes s A M w hs h1 h6 hAM
set_option maxRecDepth 100000 in
theorem numAt_s_yes (s : ByteArray) (A M : Nat) (w : World) (hs : s.size ≤ 9223372036854775807) (h1 : 1 ≤ M) (h6 : M ≤ 6) (h : A + M ≤ s.size) :
    Calls Tryd.prog 78 #[.string s, .int .i64 A, .int .i64 M] w fun e w' => e = .returned (.tuple #[.int .i64 (ofBe (s.extract A (A + M)).data.toList : Nat), .bool true]) ∧ Below w.heap.size w w' := by
  obtain ⟨t, ht⟩ : ∃ t, t = s.extract A (A + M) := ⟨_, rfl⟩
  have hts := ext_size h
  rw [← ht] at hts
  have hcall : Hid (∀ W, Calls Tryd.prog 90 #[.string s, .int .i64 A, .int .i64 M] W fun e w' => e = .returned (.tuple #[.string t, .bool true]) ∧ W = w') := Lib.hid (fun W => by rw [ht]; exact textAt_s_yes s A M W hs h)
  rw [← ht]
  have HT := Lib.hid hts
  have ht6 : t.size ≤ 6 := by omega
  clear hts ht
  have hM1 : (1 : Int) ≤ M := by omega
  have hM6 : (M : Int) ≤ 6 := by omega
  go_enter Tryd.func78, Tryd.ntmps78
  go_wp2_with (first | (go_at_call 90; refine (hcall.out _).mono ?_; rintro e w' ⟨rfl, rfl⟩) | go_in)
  go_loopw [10, 11] (fun n i wr => ∃ k : Nat, k ≤ t.size ∧ i = .int .i64 (k : Int) ∧ n = .int .i64 (ofBe (t.data.toList.take k) : Nat) ∧ Below w.heap.size w wr) (fun _ i _ => t.size - (intOf i).toNat)
  case atStart => exact ⟨0, Nat.zero_le _, rfl, rfl, Below.refl _ _⟩
  case round =>
    obtain ⟨k, hk, rfl, rfl, hnx⟩ := hrel
    by_cases hlt : k < t.size
    · have hx1 := t[k].toNat_lt
      have hb := ofBe_small (l := t.data.toList.take k) (by simp; omega)
      have hor := or_byte (ofBe (t.data.toList.take k)) t[k].toNat (by omega) hx1
      have HS := Lib.hid (ofBe_snoc (t.data.toList.take k) t[k])
      have HTS := Lib.hid (take_succ_bytes t k hlt)
      go_wp2
      go_roundw
      case rel => exact ⟨k + 1, hlt, by go_num, by rw [HTS.out, HS.out]; go_num, hnx⟩
      case measure => simp [intOf]; omega
    · obtain rfl : k = t.size := by omega
      have HE := Lib.hid (show t.data.toList.take t.size = t.data.toList from List.take_of_length_le (by simp))
      go_wp2
      go_ret2
      exact ⟨ret_two (congrArg (Value.int .i64) (by rw [HE.out])) rfl, hnx⟩
set_option maxRecDepth 100000 in
theorem numAt_s_no (s : ByteArray) (a wd : Int) (w : World) (hs : s.size ≤ 9223372036854775807) (h : numAtB s a wd = false) :
    Calls Tryd.prog 78 #[.string s, .int .i64 a, .int .i64 wd] w fun e w' => e = .returned (.tuple #[.int .i64 0, .bool false]) ∧ w = w' := by
  rcases numAtB_no h with h | h | ⟨h1, h6, _, h⟩
  · have hx1 : ¬ 1 ≤ wd := by omega
    go_enter Tryd.func78, Tryd.ntmps78
    go_wp2_with (first | go_in)
    go_ret2
    exact ⟨rfl, rfl⟩
  · have hx1 : 1 ≤ wd := by omega
    have hx2 : ¬ wd ≤ 6 := by omega
    go_enter Tryd.func78, Tryd.ntmps78
    go_wp2_with (first | go_in)
    go_ret2
    exact ⟨rfl, rfl⟩
  · go_enter Tryd.func78, Tryd.ntmps78
    go_wp2_with (first | (go_at_call 90; refine (textAt_s_no s a wd _ hs h).mono ?_; rintro e w' ⟨rfl, rfl⟩) | go_in)
    refine wp_loop_rounds 1 ?_
    rw [rounds_succ]
    go_wp2
    go_ret2
    exact ⟨rfl, rfl⟩
set_option maxRecDepth 100000 in
theorem numAt_s (s : ByteArray) (a wd : Int) (w : World) (hs : s.size ≤ 9223372036854775807) :
    Calls Tryd.prog 78 #[.string s, .int .i64 a, .int .i64 wd] w fun e w' => e = .returned (.tuple #[.int .i64 (numAtN s a wd : Nat), .bool (numAtB s a wd)]) ∧ Below w.heap.size w w' := by
  cases h : numAtB s a wd
  · rw [numAtN_no h]; exact (numAt_s_no s a wd w hs h).mono fun _ _ ⟨h1, h2⟩ => ⟨h1, h2 ▸ Below.refl _ _⟩
  · obtain ⟨A, M, rfl, rfl, h1, h6, hAM⟩ := numAtB_yes h
    rw [numAtN_mk h1 h6 hAM]; exact numAt_s_yes s A M w hs h1 h6 hAM
end Go.Proofs.YtmhekefjlepfpaaDoor

/- The walks: TextAt, NumText, NumAt. -/
import Derived.Test.YtmhekefjlepfpaaDoorProg
import Derived.Test.YtmhekefjlepfpaaDoorK
import Derived.Test.YtmhekefjlepfpaaDoorN
import Derived.Test.YtmhekefjlepfpaaDoorA1
namespace Go.Proofs.YtmhekefjlepfpaaDoor
open Go.RowKit
set_option linter.unusedVariables false
set_option linter.unusedSimpArgs false

set_option maxRecDepth 100000 in
theorem textAt_s_yes (s : ByteArray) (A M : Nat) (w : World) (hs : s.size ≤ 9223372036854775807) (h : A + M ≤ s.size) :
    Calls Tryd.prog 90 #[.string s, .int .i64 A, .int .i64 M] w fun e w' => e = .returned (.tuple #[.string (s.extract A (A + M)), .bool true]) ∧ w = w' := by
  have hx : (M : Int) ≤ (s.size : Int) - A := by omega
  go_enter Tryd.func90, Tryd.ntmps90
  go_wp2
  go_ret2
  exact ⟨ret_two rfl rfl, rfl⟩
set_option maxRecDepth 100000 in
theorem textAt_s_no (s : ByteArray) (a m : Int) (w : World) (hs : s.size ≤ 9223372036854775807) (h : textAtB s a m = false) :
    Calls Tryd.prog 90 #[.string s, .int .i64 a, .int .i64 m] w fun e w' => e = .returned (.tuple #[.string ⟨#[]⟩, .bool false]) ∧ w = w' := by
  rcases textAtB_no h with h | h | h | ⟨_, _, _, h, hx⟩
  all_goals
    go_enter Tryd.func90, Tryd.ntmps90
    go_wp2
    all_goals
      go_ret2
      exact ⟨rfl, rfl⟩
set_option maxRecDepth 100000 in
theorem textAt_s (s : ByteArray) (a m : Int) (w : World) (hs : s.size ≤ 9223372036854775807) :
    Calls Tryd.prog 90 #[.string s, .int .i64 a, .int .i64 m] w fun e w' => e = .returned (.tuple #[.string (textAtS s a m), .bool (textAtB s a m)]) ∧ w = w' := by
  cases h : textAtB s a m
  · rw [textAtS_no h]; exact textAt_s_no s a m w hs h
  · obtain ⟨A, M, rfl, rfl, hAM⟩ := textAtB_yes h
    rw [textAtS_mk hAM]; exact textAt_s_yes s A M w hs hAM

set_option maxRecDepth 100000 in
theorem numText_i_yes (N W : Nat) (w : World) (h1 : 1 ≤ W) (h6 : W ≤ 6) (h : N < 256 ^ W) :
    Calls Tryd.prog 80 #[.int .i64 N, .int .i64 W] w fun e w' => e = .returned (.string (str (be N W))) ∧ Below w.heap.size w w' := by
  have hq := q_zero h
  have hp : (0 : Int) ≤ N := by omega
  have hN := lt_256 h h6
  clear h
  go_enter Tryd.func80, Tryd.ntmps80
  go_wp2_with (first | (go_at_call 68; refine (bigEndian_i N W _ (by omega) (by omega) (by omega)).mono ?_; rintro e w1 ⟨rfl, hb1⟩) | go_in)
  go_ret
  exact ⟨rfl, hb1⟩
set_option maxRecDepth 100000 in
theorem numText_i_big (N W : Nat) (w : World) (h1 : 1 ≤ W) (h6 : W ≤ 6) (h : 256 ^ W ≤ N) (hN : N ≤ 9223372036854775807) :
    Calls Tryd.prog 80 #[.int .i64 N, .int .i64 W] w fun e w' => e = .returned (.string ⟨#[]⟩) ∧ w = w' := by
  have hq : (((N : Int) / 2 ^ (8 * W)) != 0) = true := by have := q_pos h; simp; omega
  have hp : (0 : Int) ≤ N := by omega
  clear h
  go_enter Tryd.func80, Tryd.ntmps80
  go_wp2
  go_ret
  exact ⟨rfl, rfl⟩
set_option maxRecDepth 100000 in
theorem numText_i_no (n wd : Int) (w : World) (h : numTextB n wd = false) (hn : n ≤ 9223372036854775807) :
    Calls Tryd.prog 80 #[.int .i64 n, .int .i64 wd] w fun e w' => e = .returned (.string ⟨#[]⟩) ∧ w = w' := by
  rcases numTextB_no h with h | h | h | ⟨N, W, rfl, rfl, h1, h6, h⟩
  · go_enter Tryd.func80, Tryd.ntmps80
    go_wp2
    go_ret
    exact ⟨rfl, rfl⟩
  · go_enter Tryd.func80, Tryd.ntmps80
    go_wp2
    all_goals
      go_ret
      exact ⟨rfl, rfl⟩
  · go_enter Tryd.func80, Tryd.ntmps80
    go_wp2
    all_goals
      go_ret
      exact ⟨rfl, rfl⟩
  · exact numText_i_big N W w h1 h6 h (by omega)
set_option maxRecDepth 100000 in
theorem numText_i (n wd : Int) (w : World) (hn : n ≤ 9223372036854775807) :
    Calls Tryd.prog 80 #[.int .i64 n, .int .i64 wd] w fun e w' => e = .returned (.string (str (numTextL n wd))) ∧ Below w.heap.size w w' := by
  cases h : numTextB n wd
  · rw [numTextL_no h]; exact (numText_i_no n wd w h hn).mono fun _ _ ⟨h1, h2⟩ => ⟨h1, h2 ▸ Below.refl _ _⟩
  · obtain ⟨N, W, rfl, rfl, h1, h6, hl⟩ := numTextB_yes h
    rw [numTextL_mk h1 h6 hl]; exact numText_i_yes N W w h1 h6 hl

theorem nts_zero {N W k : Nat} (h : k ≤ W) : ((be (N / 256 ^ (W - k)) k ++ List.replicate (W - k) 0).map vb).length = W * 1 := by simp [be_len]; omega
theorem nts_step {N W k : Nat} (h : k < W) :
    ((be (N / 256 ^ (W - k)) k ++ List.replicate (W - k) 0).map vb).set k (.int .u8 ((N : Int) / 2 ^ (8 * (W - 1 - k)) % 256)) = (be (N / 256 ^ (W - (k + 1))) (k + 1) ++ List.replicate (W - (k + 1)) 0).map vb := by
  have e : W - k = (W - (k + 1)) + 1 := by omega
  have e2 : (N : Int) / 2 ^ (8 * (W - 1 - k)) = ((N / 256 ^ (W - (k + 1)) : Nat) : Int) := by
    rw [show (256 : Nat) = 2 ^ 8 from rfl, ← Nat.pow_mul, show W - 1 - k = W - (k + 1) by omega]
    simp
  rw [e2, vb_mod, e, List.replicate_succ, be, Nat.div_div_eq_div_mul, ← Nat.pow_succ, ← e, List.map_append, List.map_cons]
  rw [List.set_append_right _ _ (by simp [be_len])]
  simp [be_len]
  rw [← e]
set_option maxRecDepth 100000 in
theorem numText_s_yes (N W : Nat) (w : World) (h1 : 1 ≤ W) (h6 : W ≤ 6) (h : N < 256 ^ W) :
    Calls Tryd.prog 59 #[.int .i64 N, .int .i64 W] w fun e w' => e = .returned (.string (str (be N W))) ∧ Below w.heap.size w w' := by
  obtain ⟨i0, hi, hz0, hz1, hz2⟩ := info_parts u8_info
  have hq := q_zero h
  have hp : (0 : Int) ≤ N := by omega
  have hN := lt_256 h h6
  clear h
  go_enter Tryd.func59, Tryd.ntmps59
  go_wp2_with (first | go_in | (refine wpList_make_full _ rfl _ _ 44 rfl w.heap.size 5 i0 (.int .u8 0) 1 Tryd.underlying44 hi hz0 hz1 .i64 .i64 (W : Int) (W : Int) W rfl rfl rfl rfl (by rw [hz2]; omega) (by unfold maxLen; omega) (Nat.le_refl _) ?_; intro w1 hown1 hg1))
  have hbl : Below w.heap.size w w1 := (Below.refl _ _).grown hg1 (Nat.le_refl _) (by simp)
  have HQ := Lib.hid hq
  clear hq
  go_loopw [6] (fun i wr => ∃ k : Nat, k ≤ W ∧ i = .int .i64 (k : Int) ∧ wr.ownsRow w.heap.size 5 1 (.slice (some ⟨w.heap.size, 0, none⟩) W W) W ((be (N / 256 ^ (W - k)) k ++ List.replicate (W - k) 0).map vb) ∧ Below w.heap.size w wr) (fun i _ => W - (intOf i).toNat)
  case atStart =>
    refine ⟨0, Nat.zero_le _, rfl, ?_, hbl⟩
    have e : (madeCells (Value.int IntKind.u8 0).cells (W * 1)).toList = (be (N / 256 ^ (W - 0)) 0 ++ List.replicate (W - 0) 0).map vb := by
      rw [show (Value.int IntKind.u8 0).cells = #[.int .u8 0] from rfl, toList_madeCells_one]
      simp [be, vb]
    rw [e] at hown1; exact hown1
  case round =>
    obtain ⟨k, hk, rfl, hown, hnx⟩ := hrel
    by_cases hlt : k < W
    · have hcell := hown.cellAt k (by omega)
      have hfr := hown.frozenAt k
      have hsz := (own_size hown).2
      obtain ⟨u, hu⟩ : ∃ u, ((be (N / 256 ^ (W - k)) k ++ List.replicate (W - k) 0).map vb)[k]? = some u := by
        have := nts_zero (N := N) hk
        exact ⟨_, List.getElem?_eq_getElem (by omega)⟩
      rw [hu] at hcell
      clear hu hown1
      have H2 := own_set hown k _ _ (nts_step hlt)
      clear hown
      go_wp2
      go_roundw
      case rel => exact ⟨k + 1, by omega, by go_num, H2, hnx.setCell (Nat.le_refl _) _⟩
      case measure => simp [intOf]; omega
    · obtain rfl : k = W := by omega
      have hst := own_string (P := Tryd.prog) wr 44 9 5 Tryd.underlying44 Tryd.underlying5 Tryd.underlying9 hown
      go_wp2
      go_ret
      exact ⟨ret_str (by simp), hnx⟩
set_option maxRecDepth 100000 in
theorem numText_s_big (N W : Nat) (w : World) (h1 : 1 ≤ W) (h6 : W ≤ 6) (h : 256 ^ W ≤ N) (hN : N ≤ 9223372036854775807) :
    Calls Tryd.prog 59 #[.int .i64 N, .int .i64 W] w fun e w' => e = .returned (.string ⟨#[]⟩) ∧ w = w' := by
  have hq : 0 < (N : Int) / 2 ^ (8 * W) := q_pos h
  have hp : (0 : Int) ≤ N := by omega
  clear h
  go_enter Tryd.func59, Tryd.ntmps59
  go_wp2_with go_in
  go_ret
  exact ⟨rfl, rfl⟩
set_option maxRecDepth 100000 in
theorem numText_s_no (n wd : Int) (w : World) (h : numTextB n wd = false) (hn : n ≤ 9223372036854775807) :
    Calls Tryd.prog 59 #[.int .i64 n, .int .i64 wd] w fun e w' => e = .returned (.string ⟨#[]⟩) ∧ w = w' := by
  rcases numTextB_no h with h | h | h | ⟨N, W, rfl, rfl, h1, h6, h⟩
  · by_cases h1 : 1 ≤ wd
    all_goals by_cases h6 : wd ≤ 6
    all_goals
      go_enter Tryd.func59, Tryd.ntmps59
      go_wp2_with go_in
      go_ret
      exact ⟨rfl, rfl⟩
  · go_enter Tryd.func59, Tryd.ntmps59
    go_wp2_with go_in
    go_ret
    exact ⟨rfl, rfl⟩
  · go_enter Tryd.func59, Tryd.ntmps59
    go_wp2_with go_in
    go_ret
    exact ⟨rfl, rfl⟩
  · exact numText_s_big N W w h1 h6 h (by omega)
set_option maxRecDepth 100000 in
theorem numText_s (n wd : Int) (w : World) (hn : n ≤ 9223372036854775807) :
    Calls Tryd.prog 59 #[.int .i64 n, .int .i64 wd] w fun e w' => e = .returned (.string (str (numTextL n wd))) ∧ Below w.heap.size w w' := by
  cases h : numTextB n wd
  · rw [numTextL_no h]; exact (numText_s_no n wd w h hn).mono fun _ _ ⟨h1, h2⟩ => ⟨h1, h2 ▸ Below.refl _ _⟩
  · obtain ⟨N, W, rfl, rfl, h1, h6, hl⟩ := numTextB_yes h
    rw [numTextL_mk h1 h6 hl]; exact numText_s_yes N W w h1 h6 hl

end Go.Proofs.YtmhekefjlepfpaaDoor

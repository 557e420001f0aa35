/- The walks: TextAt, NumText, NumAt. -/
import Derived.Test.YtpfhhmlbciojaaaProg
import Derived.Test.YtpfhhmlbciojaaaK
import Derived.Test.YtpfhhmlbciojaaaN
import Derived.Test.YtpfhhmlbciojaaaA1
namespace Go.Proofs.Ytpfhhmlbciojaaa
open Go.RowKit
set_option linter.unusedVariables false
set_option linter.unusedSimpArgs false

theorem textAt_i_yes (s : ByteArray) (A M : Nat) (w : World) (hs : s.size ≤ 9223372036854775807) (h : A + M ≤ s.size) :
    Calls Try.prog 14 #[.string s, .int .i64 A, .int .i64 M] w fun e w' => e = .returned (.tuple #[.string (s.extract A (A + M)), .bool true]) ∧ w = w' := by
  have hx : (M : Int) ≤ (s.size : Int) - A := by omega
  go_enter Try.func14, Try.ntmps14
  go_wp2
  go_ret2
  exact ⟨ret_two rfl rfl, rfl⟩
theorem textAt_i_no (s : ByteArray) (a m : Int) (w : World) (hs : s.size ≤ 9223372036854775807) (h : textAtB s a m = false) :
    Calls Try.prog 14 #[.string s, .int .i64 a, .int .i64 m] w fun e w' => e = .returned (.tuple #[.string ⟨#[]⟩, .bool false]) ∧ w = w' := by
  rcases textAtB_no h with h | h | h | ⟨_, _, _, h, hx⟩
  all_goals
    go_enter Try.func14, Try.ntmps14
    go_wp2
    all_goals
      go_ret2
      exact ⟨rfl, rfl⟩
theorem textAt_i (s : ByteArray) (a m : Int) (w : World) (hs : s.size ≤ 9223372036854775807) :
    Calls Try.prog 14 #[.string s, .int .i64 a, .int .i64 m] w fun e w' => e = .returned (.tuple #[.string (textAtS s a m), .bool (textAtB s a m)]) ∧ w = w' := by
  cases h : textAtB s a m
  · rw [textAtS_no h]; exact textAt_i_no s a m w hs h
  · obtain ⟨A, M, rfl, rfl, hAM⟩ := textAtB_yes h
    rw [textAtS_mk hAM]; exact textAt_i_yes s A M w hs hAM

theorem numText_i_yes (N W : Nat) (w : World) (h1 : 1 ≤ W) (h6 : W ≤ 6) (h : N < 256 ^ W) :
    Calls Try.prog 11 #[.int .i64 N, .int .i64 W] w fun e w' => e = .returned (.string (str (be N W))) ∧ Below w.heap.size w w' := by
  have hq := q_zero h
  have hp : (0 : Int) ≤ N := by omega
  have hN := lt_256 h h6
  clear h
  go_enter Try.func11, Try.ntmps11
  go_wp2_with (first | (go_at_call 38; refine (bigEndian_i N W _ (by omega) (by omega) (by omega)).mono ?_; rintro e w1 ⟨rfl, hb1⟩) | go_in)
  go_ret
  exact ⟨rfl, hb1⟩
theorem numText_i_big (N W : Nat) (w : World) (h1 : 1 ≤ W) (h6 : W ≤ 6) (h : 256 ^ W ≤ N) (hN : N ≤ 9223372036854775807) :
    Calls Try.prog 11 #[.int .i64 N, .int .i64 W] w fun e w' => e = .returned (.string ⟨#[]⟩) ∧ w = w' := by
  have hq : (((N : Int) / 2 ^ (8 * W)) != 0) = true := by have := q_pos h; simp; omega
  have hp : (0 : Int) ≤ N := by omega
  clear h
  go_enter Try.func11, Try.ntmps11
  go_wp2
  go_ret
  exact ⟨rfl, rfl⟩
theorem numText_i_no (n wd : Int) (w : World) (h : numTextB n wd = false) (hn : n ≤ 9223372036854775807) :
    Calls Try.prog 11 #[.int .i64 n, .int .i64 wd] w fun e w' => e = .returned (.string ⟨#[]⟩) ∧ w = w' := by
  rcases numTextB_no h with h | h | h | ⟨N, W, rfl, rfl, h1, h6, h⟩
  · go_enter Try.func11, Try.ntmps11
    go_wp2
    go_ret
    exact ⟨rfl, rfl⟩
  · go_enter Try.func11, Try.ntmps11
    go_wp2
    all_goals
      go_ret
      exact ⟨rfl, rfl⟩
  · go_enter Try.func11, Try.ntmps11
    go_wp2
    all_goals
      go_ret
      exact ⟨rfl, rfl⟩
  · exact numText_i_big N W w h1 h6 h (by omega)
theorem numText_i (n wd : Int) (w : World) (hn : n ≤ 9223372036854775807) :
    Calls Try.prog 11 #[.int .i64 n, .int .i64 wd] w fun e w' => e = .returned (.string (str (numTextL n wd))) ∧ Below w.heap.size w w' := by
  cases h : numTextB n wd
  · rw [numTextL_no h]; exact (numText_i_no n wd w h hn).mono fun _ _ ⟨h1, h2⟩ => ⟨h1, h2 ▸ Below.refl _ _⟩
  · obtain ⟨N, W, rfl, rfl, h1, h6, hl⟩ := numTextB_yes h
    rw [numTextL_mk h1 h6 hl]; exact numText_i_yes N W w h1 h6 hl


end Go.Proofs.Ytpfhhmlbciojaaa

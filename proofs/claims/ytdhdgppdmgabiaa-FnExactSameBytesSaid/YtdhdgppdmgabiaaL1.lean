/- The walks of the laws over words and bytes, first part. -/
import Derived.Test.YtdhdgppdmgabiaaProg
import Derived.Test.YtdhdgppdmgabiaaK
import Derived.Test.YtdhdgppdmgabiaaA1
import Derived.Test.YtdhdgppdmgabiaaA2
import Derived.OpenShut
namespace Go.Proofs.Ytdhdgppdmgabiaa
open Go.RowKit
set_option linter.unusedVariables false
set_option linter.unusedSimpArgs false

theorem law_Constants (w : World) : Calls Try.prog 3 #[] w fun e w' => e = .returned (.bool true) ∧ Below w.heap.size w w' := by
  go_enter Try.func3, Try.ntmps3
  go_wp2
  go_ret
  exact ⟨rfl, Below.refl _ _⟩
theorem law_KeyOk (s : ByteArray) (w : World) (hs : s.size ≤ maxLen) : Calls Try.prog 4 #[.string s] w fun e w' => e = .returned (.bool true) ∧ Below w.heap.size w w' := by
  unfold maxLen at hs
  go_enter Try.func4, Try.ntmps4
  go_wp2_with (first | (go_at_call 15; refine (keyOk_s _ _).mono ?_; rintro e w1 ⟨rfl, rfl⟩) | (go_at_call 16; refine (keyOk_i _ _).mono ?_; rintro e w1 ⟨rfl, rfl⟩))
  all_goals
    go_ret
    exact ⟨rfl, Below.refl _ _⟩
theorem law_Brought (n l m : Int) (w : World) (_ : (Lit.int .i64 n).wf = true) (_ : (Lit.int .i64 l).wf = true) (_ : (Lit.int .i64 m).wf = true) : Calls Try.prog 5 #[.int .i64 n, .int .i64 l, .int .i64 m] w fun e w' => e = .returned (.bool true) ∧ Below w.heap.size w w' := by
  go_enter Try.func5, Try.ntmps5
  go_wp2_with (first | (go_at_call 17; refine (brought_s _ _ _ _).mono ?_; rintro e w1 ⟨rfl, rfl⟩) | (go_at_call 18; refine (brought_i _ _ _ _).mono ?_; rintro e w1 ⟨rfl, rfl⟩))
  all_goals
    go_ret
    exact ⟨rfl, Below.refl _ _⟩
theorem law_TextAt (s : ByteArray) (a m : Int) (w : World) (hs : s.size ≤ maxLen) (_ : (Lit.int .i64 a).wf = true) (_ : (Lit.int .i64 m).wf = true) : Calls Try.prog 6 #[.string s, .int .i64 a, .int .i64 m] w fun e w' => e = .returned (.bool true) ∧ Below w.heap.size w w' := by
  unfold maxLen at hs
  go_enter Try.func6, Try.ntmps6
  go_wp2_with (first | (go_at_call 19; refine (textAt_s _ _ _ _ (by omega)).mono ?_; rintro e w1 ⟨rfl, rfl⟩) | (go_at_call 20; refine (textAt_i _ _ _ _ (by omega)).mono ?_; rintro e w1 ⟨rfl, rfl⟩))
  all_goals
    go_ret
    exact ⟨rfl, Below.refl _ _⟩
theorem law_SameBytes (a b : ByteArray) (w : World) (ha : a.size ≤ maxLen) (hb : b.size ≤ maxLen) : Calls Try.prog 7 #[.string a, .string b] w fun e w' => e = .returned (.bool true) ∧ Below w.heap.size w w' := by
  unfold maxLen at ha hb
  go_enter Try.func7, Try.ntmps7
  go_wp2_with (first | (go_at_call 21; refine (sameBytes_s _ _ _ (by omega) (by omega)).mono ?_; rintro e w1 ⟨rfl, hb1⟩) | (go_at_call 22; refine (sameBytes_i _ _ _ (by omega) (by omega)).mono ?_; rintro e w2 ⟨rfl, hb2⟩))
  all_goals
    go_ret
    first
      | exact ⟨rfl, Below.refl _ _⟩
      | exact ⟨rfl, hb1.trans (hb2.mono hb1.size)⟩
theorem law_NumText (n wd : Int) (w : World) (hn : (Lit.int .i64 n).wf = true) (_ : (Lit.int .i64 wd).wf = true) : Calls Try.prog 10 #[.int .i64 n, .int .i64 wd] w fun e w' => e = .returned (.bool true) ∧ Below w.heap.size w w' := by
  have h1 : n ≤ 9223372036854775807 := by have := bounds_i64 hn; omega
  clear hn
  go_enter Try.func10, Try.ntmps10
  go_wp2_with (first | (go_at_call 27; refine (numText_s _ _ _ (by omega)).mono ?_; rintro e w1 ⟨rfl, hb1⟩) | (go_at_call 28; refine (numText_i _ _ _ (by omega)).mono ?_; rintro e w2 ⟨rfl, hb2⟩))
  all_goals
    go_ret
    exact ⟨rfl, hb1.trans (hb2.mono hb1.size)⟩
end Go.Proofs.Ytdhdgppdmgabiaa

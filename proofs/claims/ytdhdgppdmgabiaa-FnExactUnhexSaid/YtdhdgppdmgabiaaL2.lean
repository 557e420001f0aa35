/- The walks of the laws on Hex and Unhex. -/
import Derived.Test.YtdhdgppdmgabiaaProg
import Derived.Test.YtdhdgppdmgabiaaK
import Derived.Test.YtdhdgppdmgabiaaA1
import Derived.Test.YtdhdgppdmgabiaaA3
import Derived.OpenShut
namespace Go.Proofs.Ytdhdgppdmgabiaa
open Go.RowKit
set_option linter.unusedVariables false
set_option linter.unusedSimpArgs false

theorem law_Hex (s : ByteArray) (w : World) (hs : s.size ≤ maxLen) : Calls Try.prog 9 #[.string s] w fun e w' => e = .returned (.bool true) ∧ Below w.heap.size w w' := by
  unfold maxLen at hs
  by_cases h2 : s.size ≤ 20000
  · go_enter Try.func9, Try.ntmps9
    go_wp2_with (first | (go_at_call 25; refine (hex_s _ _ (by omega)).mono ?_; rintro e w1 ⟨rfl, hb1⟩) | (go_at_call 26; refine (hex_i _ _ (by omega)).mono ?_; rintro e w2 ⟨rfl, hb2⟩))
    go_ret
    exact ⟨rfl, hb1.trans (hb2.mono hb1.size)⟩
  · by_cases h1 : s.size ≤ 1048576
    · go_enter Try.func9, Try.ntmps9
      go_wp2_with (first | (go_at_call 25; refine (hex_s_no _ _ (by omega)).mono ?_; rintro e w1 ⟨rfl, rfl⟩) | (go_at_call 26; refine (hex_i_no _ _ (by omega)).mono ?_; rintro e w2 ⟨rfl, rfl⟩))
      go_ret
      exact ⟨rfl, Below.refl _ _⟩
    · go_enter Try.func9, Try.ntmps9
      go_wp2
      go_ret
      exact ⟨rfl, Below.refl _ _⟩
theorem law_Unhex (s : ByteArray) (w : World) (hs : s.size ≤ maxLen) : Calls Try.prog 13 #[.string s] w fun e w' => e = .returned (.bool true) ∧ Below w.heap.size w w' := by
  unfold maxLen at hs
  go_enter Try.func13, Try.ntmps13
  go_wp2_with (first | (go_at_call 33; refine (unhex_s _ _ (by omega)).mono ?_; rintro e w1 ⟨rfl, hb1⟩) | (go_at_call 34; refine (unhex_i _ _ (by omega)).mono ?_; rintro e w2 ⟨rfl, hb2⟩))
  all_goals
    go_ret
    first
      | exact ⟨rfl, Below.refl _ _⟩
      | exact ⟨rfl, hb1.trans (hb2.mono hb1.size)⟩
end Go.Proofs.Ytdhdgppdmgabiaa

/- The walk of the law on PadText. -/
import Derived.Test.YtdhdgppdmgabiaaProg
import Derived.Test.YtdhdgppdmgabiaaK
import Derived.Test.YtdhdgppdmgabiaaK2
import Derived.Test.YtdhdgppdmgabiaaA1
import Derived.Test.YtdhdgppdmgabiaaA4
namespace Go.Proofs.Ytdhdgppdmgabiaa
open Go.RowKit
set_option linter.unusedVariables false
set_option linter.unusedSimpArgs false

theorem law_PadText (s : ByteArray) (w : World) (hs : s.size ≤ maxLen) : Calls Try.prog 8 #[.string s] w fun e w' => e = .returned (.bool true) ∧ Below w.heap.size w w' := by
  unfold maxLen at hs
  by_cases h1 : s.size ≤ 1048576
  · go_enter Try.func8, Try.ntmps8
    go_wp2_with (first | (go_at_call 23; refine (padText_s _ _ (by omega)).mono ?_; rintro e w1 ⟨rfl, hb1⟩) | (go_at_call 24; refine (padText_i _ _ (by omega)).mono ?_; rintro e w2 ⟨rfl, hb2⟩))
    go_ret
    exact ⟨rfl, hb1.trans (hb2.mono hb1.size)⟩
  · go_enter Try.func8, Try.ntmps8
    go_wp2
    go_ret
    exact ⟨rfl, Below.refl _ _⟩
end Go.Proofs.Ytdhdgppdmgabiaa

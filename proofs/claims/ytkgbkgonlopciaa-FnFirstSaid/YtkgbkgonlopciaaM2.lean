/- The walk of the laws' bound on a draw's bytes. -/
import Derived.Test.YtkgbkgonlopciaaProg
import Derived.Test.YtkgbkgonlopciaaK4
import Derived.OpenShut
namespace Go.Proofs.Ytkgbkgonlopciaa
open Go.RowKit
set_option linter.unusedVariables false
set_option linter.unusedSimpArgs false

theorem u8_range {xs : List Int} (hx : ∀ x ∈ xs, (Lit.int .u8 x).wf = true) : ∀ x ∈ xs, 0 ≤ x ∧ x ≤ 255 := fun x h => bounds_u8 (hx x h)
theorem big_l (v : Value) (n : Nat) (xs : List Value) (w : World) (hv : Rd w 1 v n xs) : Calls Try.prog 26 #[v] w fun e w' => e = .returned (.bool (decide (1048576 < (n : Int)))) ∧ w = w' := by
  obtain ⟨A, cap, rfl, hm⟩ := hv.shape
  clear hv
  go_enter Try.func26, Try.ntmps26
  go_wp2
  go_ret
  exact ⟨rfl, rfl⟩
end Go.Proofs.Ytkgbkgonlopciaa

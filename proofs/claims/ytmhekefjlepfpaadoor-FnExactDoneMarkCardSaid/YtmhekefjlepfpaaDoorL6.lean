/- The walks of the laws on the codes of nonces and addresses. -/
import Derived.Test.YtmhekefjlepfpaaDoorProg
import Derived.Test.YtmhekefjlepfpaaDoorK
import Derived.Test.YtmhekefjlepfpaaDoorK2
import Derived.Test.YtmhekefjlepfpaaDoorK4
import Derived.Test.YtmhekefjlepfpaaDoorB4
import Derived.Test.YtmhekefjlepfpaaDoorB6
import Derived.Test.YtmhekefjlepfpaaDoorB7
import Derived.Test.YtmhekefjlepfpaaDoorB8
import Derived.Test.YtmhekefjlepfpaaDoorB9
import Derived.Test.YtmhekefjlepfpaaDoorB10
import Derived.Test.YtmhekefjlepfpaaDoorB11
namespace Go.Proofs.YtmhekefjlepfpaaDoor
open Go.RowKit
set_option linter.unusedVariables false
set_option linter.unusedSimpArgs false

theorem wf_le {n : Int} (h : (Lit.int .i64 n).wf = true) : n ≤ 9223372036854775807 := by
  have := bounds_i64 h
  omega

theorem law_JoinMark (a : ByteArray) (b : ByteArray) (n : Int) (m : Int) (w : World) (ha : a.size ≤ maxLen) (hb : b.size ≤ maxLen) (hn : (Lit.int .i64 n).wf = true) (hm : (Lit.int .i64 m).wf = true) (hK : HoldsK w) (hS : HoldsS w) : Calls Tryd.prog 14 #[.string a, .string b, .int .i64 n, .int .i64 m] w fun e w' => e = .returned (.bool true) ∧ Below w.heap.size w w' := by
  unfold maxLen at ha hb
  have HKS := Lib.hid (And.intro hK hS)
  clear hK hS
  by_cases ga : a.size ≤ 1048576
  case neg =>
    go_enter Tryd.func14, Tryd.ntmps14
    go_wp2
    go_ret
    exact ⟨rfl, Below.refl _ _⟩
  by_cases gb : b.size ≤ 1048576
  case neg =>
    go_enter Tryd.func14, Tryd.ntmps14
    go_wp2
    go_ret
    exact ⟨rfl, Below.refl _ _⟩
  go_enter Tryd.func14, Tryd.ntmps14
  go_wp2_with fail
  refine (joinMark_s a b n m _ (wf_le hn) (wf_le hm)).mono ?_
  rintro e w1 ⟨rfl, hb1⟩
  go_wp2_with fail
  refine (joinMark_i a b n m _ (wf_le hn) (wf_le hm) (HKS.out.1.below hb1) (HKS.out.2.below hb1)).mono ?_
  rintro e w2 ⟨rfl, hb2⟩
  go_wp2
  go_ret
  exact ⟨rfl, hb1.trans (hb2.mono hb1.size)⟩
theorem law_BackMark (a : ByteArray) (b : ByteArray) (n : Int) (m : Int) (w : World) (ha : a.size ≤ maxLen) (hb : b.size ≤ maxLen) (hn : (Lit.int .i64 n).wf = true) (hm : (Lit.int .i64 m).wf = true) (hK : HoldsK w) (hS : HoldsS w) : Calls Tryd.prog 16 #[.string a, .string b, .int .i64 n, .int .i64 m] w fun e w' => e = .returned (.bool true) ∧ Below w.heap.size w w' := by
  unfold maxLen at ha hb
  have HKS := Lib.hid (And.intro hK hS)
  clear hK hS
  by_cases ga : a.size ≤ 1048576
  case neg =>
    go_enter Tryd.func16, Tryd.ntmps16
    go_wp2
    go_ret
    exact ⟨rfl, Below.refl _ _⟩
  by_cases gb : b.size ≤ 1048576
  case neg =>
    go_enter Tryd.func16, Tryd.ntmps16
    go_wp2
    go_ret
    exact ⟨rfl, Below.refl _ _⟩
  go_enter Tryd.func16, Tryd.ntmps16
  go_wp2_with fail
  refine (backMark_s a b n m _ (wf_le hn) (wf_le hm)).mono ?_
  rintro e w1 ⟨rfl, hb1⟩
  go_wp2_with fail
  refine (backMark_i a b n m _ (wf_le hn) (wf_le hm) (HKS.out.1.below hb1) (HKS.out.2.below hb1)).mono ?_
  rintro e w2 ⟨rfl, hb2⟩
  go_wp2
  go_ret
  exact ⟨rfl, hb1.trans (hb2.mono hb1.size)⟩
theorem law_DoneMark (a : ByteArray) (b : ByteArray) (n : Int) (m : Int) (w : World) (ha : a.size ≤ maxLen) (hb : b.size ≤ maxLen) (hn : (Lit.int .i64 n).wf = true) (hm : (Lit.int .i64 m).wf = true) (hK : HoldsK w) (hS : HoldsS w) : Calls Tryd.prog 17 #[.string a, .string b, .int .i64 n, .int .i64 m] w fun e w' => e = .returned (.bool true) ∧ Below w.heap.size w w' := by
  unfold maxLen at ha hb
  have HKS := Lib.hid (And.intro hK hS)
  clear hK hS
  by_cases ga : a.size ≤ 1048576
  case neg =>
    go_enter Tryd.func17, Tryd.ntmps17
    go_wp2
    go_ret
    exact ⟨rfl, Below.refl _ _⟩
  by_cases gb : b.size ≤ 1048576
  case neg =>
    go_enter Tryd.func17, Tryd.ntmps17
    go_wp2
    go_ret
    exact ⟨rfl, Below.refl _ _⟩
  go_enter Tryd.func17, Tryd.ntmps17
  go_wp2_with fail
  refine (doneMark_s a b n m _ (wf_le hn) (wf_le hm)).mono ?_
  rintro e w1 ⟨rfl, hb1⟩
  go_wp2_with fail
  refine (doneMark_i a b n m _ (wf_le hn) (wf_le hm) (HKS.out.1.below hb1) (HKS.out.2.below hb1)).mono ?_
  rintro e w2 ⟨rfl, hb2⟩
  go_wp2
  go_ret
  exact ⟨rfl, hb1.trans (hb2.mono hb1.size)⟩
theorem law_AddrMark (a : ByteArray) (b : ByteArray) (n : Int) (m : Int) (p : Int) (w : World) (ha : a.size ≤ maxLen) (hb : b.size ≤ maxLen) (hn : (Lit.int .i64 n).wf = true) (hm : (Lit.int .i64 m).wf = true) (hp : (Lit.int .i64 p).wf = true) (hK : HoldsK w) (hS : HoldsS w) : Calls Tryd.prog 15 #[.string a, .string b, .int .i64 n, .int .i64 m, .int .i64 p] w fun e w' => e = .returned (.bool true) ∧ Below w.heap.size w w' := by
  unfold maxLen at ha hb
  have HKS := Lib.hid (And.intro hK hS)
  clear hK hS
  by_cases ga : a.size ≤ 1048576
  case neg =>
    go_enter Tryd.func15, Tryd.ntmps15
    go_wp2
    go_ret
    exact ⟨rfl, Below.refl _ _⟩
  by_cases gb : b.size ≤ 1048576
  case neg =>
    go_enter Tryd.func15, Tryd.ntmps15
    go_wp2
    go_ret
    exact ⟨rfl, Below.refl _ _⟩
  go_enter Tryd.func15, Tryd.ntmps15
  go_wp2_with fail
  refine (addrMark_s a b n m p _ (wf_le hn) (wf_le hm) (wf_le hp)).mono ?_
  rintro e w1 ⟨rfl, hb1⟩
  go_wp2_with fail
  refine (addrMark_i a b n m p _ (wf_le hn) (wf_le hm) (wf_le hp) (HKS.out.1.below hb1) (HKS.out.2.below hb1)).mono ?_
  rintro e w2 ⟨rfl, hb2⟩
  go_wp2
  go_ret
  exact ⟨rfl, hb1.trans (hb2.mono hb1.size)⟩
end Go.Proofs.YtmhekefjlepfpaaDoor

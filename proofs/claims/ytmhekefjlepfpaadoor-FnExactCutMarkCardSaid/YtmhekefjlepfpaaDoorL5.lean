/- The walks of the laws on digests, HMAC and tokens. -/
import Derived.Test.YtmhekefjlepfpaaDoorProg
import Derived.Test.YtmhekefjlepfpaaDoorK
import Derived.Test.YtmhekefjlepfpaaDoorK2
import Derived.Test.YtmhekefjlepfpaaDoorK4
import Derived.Test.YtmhekefjlepfpaaDoorB4
import Derived.Test.YtmhekefjlepfpaaDoorB6
import Derived.Test.YtmhekefjlepfpaaDoorB7
import Derived.Test.YtmhekefjlepfpaaDoorB8
import Derived.Test.YtmhekefjlepfpaaDoorB9
namespace Go.Proofs.YtmhekefjlepfpaaDoor
open Go.RowKit
set_option linter.unusedVariables false
set_option linter.unusedSimpArgs false

theorem law_Digest (a : ByteArray) (w : World) (ha : a.size ≤ maxLen) (hK : HoldsK w) (hS : HoldsS w) : Calls Tryd.prog 4 #[.string a] w fun e w' => e = .returned (.bool true) ∧ Below w.heap.size w w' := by
  unfold maxLen at ha
  have HKS := Lib.hid (And.intro hK hS)
  clear hK hS
  by_cases ga : a.size ≤ 1048576
  case neg =>
    go_enter Tryd.func4, Tryd.ntmps4
    go_wp2
    go_ret
    exact ⟨rfl, Below.refl _ _⟩
  go_enter Tryd.func4, Tryd.ntmps4
  go_wp2_with fail
  refine (digest_s a _ (by omega)).mono ?_
  rintro e w1 ⟨rfl, hb1⟩
  go_wp2_with fail
  refine (digest_i a _ (by omega) (HKS.out.1.below hb1) (HKS.out.2.below hb1)).mono ?_
  rintro e w2 ⟨rfl, hb2⟩
  go_wp2
  go_ret
  exact ⟨rfl, hb1.trans (hb2.mono hb1.size)⟩
theorem law_DigestHex (a : ByteArray) (w : World) (ha : a.size ≤ maxLen) (hK : HoldsK w) (hS : HoldsS w) : Calls Tryd.prog 9 #[.string a] w fun e w' => e = .returned (.bool true) ∧ Below w.heap.size w w' := by
  unfold maxLen at ha
  have HKS := Lib.hid (And.intro hK hS)
  clear hK hS
  by_cases ga : a.size ≤ 1048576
  case neg =>
    go_enter Tryd.func9, Tryd.ntmps9
    go_wp2
    go_ret
    exact ⟨rfl, Below.refl _ _⟩
  go_enter Tryd.func9, Tryd.ntmps9
  go_wp2_with fail
  refine (digestHex_s a _ (by omega)).mono ?_
  rintro e w1 ⟨rfl, hb1⟩
  go_wp2_with fail
  refine (digestHex_i a _ (by omega) (HKS.out.1.below hb1) (HKS.out.2.below hb1)).mono ?_
  rintro e w2 ⟨rfl, hb2⟩
  go_wp2
  go_ret
  exact ⟨rfl, hb1.trans (hb2.mono hb1.size)⟩
theorem law_CutDigest (a : ByteArray) (n : Int) (w : World) (ha : a.size ≤ maxLen) (hn : (Lit.int .i64 n).wf = true) (hK : HoldsK w) (hS : HoldsS w) : Calls Tryd.prog 5 #[.string a, .int .i64 n] w fun e w' => e = .returned (.bool true) ∧ Below w.heap.size w w' := by
  unfold maxLen at ha
  have HKS := Lib.hid (And.intro hK hS)
  clear hK hS
  by_cases ga : a.size ≤ 1048576
  case neg =>
    go_enter Tryd.func5, Tryd.ntmps5
    go_wp2
    go_ret
    exact ⟨rfl, Below.refl _ _⟩
  go_enter Tryd.func5, Tryd.ntmps5
  go_wp2_with fail
  refine (cutDigest_s a n _ (by omega)).mono ?_
  rintro e w1 ⟨rfl, hb1⟩
  go_wp2_with fail
  refine (cutDigest_i a n _ (by omega) (HKS.out.1.below hb1) (HKS.out.2.below hb1)).mono ?_
  rintro e w2 ⟨rfl, hb2⟩
  go_wp2
  go_ret
  exact ⟨rfl, hb1.trans (hb2.mono hb1.size)⟩
theorem law_HmacKey (a : ByteArray) (w : World) (ha : a.size ≤ maxLen) (hK : HoldsK w) (hS : HoldsS w) : Calls Tryd.prog 7 #[.string a] w fun e w' => e = .returned (.bool true) ∧ Below w.heap.size w w' := by
  unfold maxLen at ha
  have HKS := Lib.hid (And.intro hK hS)
  clear hK hS
  by_cases ga : a.size ≤ 1048576
  case neg =>
    go_enter Tryd.func7, Tryd.ntmps7
    go_wp2
    go_ret
    exact ⟨rfl, Below.refl _ _⟩
  go_enter Tryd.func7, Tryd.ntmps7
  go_wp2_with fail
  refine (hmacKey_s a _ (by omega)).mono ?_
  rintro e w1 ⟨rfl, hb1⟩
  go_wp2_with fail
  refine (hmacKey_i a _ (by omega) (HKS.out.1.below hb1) (HKS.out.2.below hb1)).mono ?_
  rintro e w2 ⟨rfl, hb2⟩
  go_wp2
  go_ret
  exact ⟨rfl, hb1.trans (hb2.mono hb1.size)⟩
theorem law_Hmac (a : ByteArray) (b : ByteArray) (w : World) (ha : a.size ≤ maxLen) (hb : b.size ≤ maxLen) (hK : HoldsK w) (hS : HoldsS w) : Calls Tryd.prog 10 #[.string a, .string b] w fun e w' => e = .returned (.bool true) ∧ Below w.heap.size w w' := by
  unfold maxLen at ha hb
  have HKS := Lib.hid (And.intro hK hS)
  clear hK hS
  by_cases ga : a.size ≤ 1048576
  case neg =>
    go_enter Tryd.func10, Tryd.ntmps10
    go_wp2
    go_ret
    exact ⟨rfl, Below.refl _ _⟩
  by_cases gb : b.size ≤ 1048576
  case neg =>
    go_enter Tryd.func10, Tryd.ntmps10
    go_wp2
    go_ret
    exact ⟨rfl, Below.refl _ _⟩
  go_enter Tryd.func10, Tryd.ntmps10
  go_wp2_with fail
  refine (hmac_s a b _ (by omega) (by omega)).mono ?_
  rintro e w1 ⟨rfl, hb1⟩
  go_wp2_with fail
  refine (hmac_i a b _ (by omega) (by omega) (HKS.out.1.below hb1) (HKS.out.2.below hb1)).mono ?_
  rintro e w2 ⟨rfl, hb2⟩
  go_wp2
  go_ret
  exact ⟨rfl, hb1.trans (hb2.mono hb1.size)⟩
theorem law_HmacOk (a : ByteArray) (b : ByteArray) (c : ByteArray) (w : World) (ha : a.size ≤ maxLen) (hb : b.size ≤ maxLen) (hc : c.size ≤ maxLen) (hK : HoldsK w) (hS : HoldsS w) : Calls Tryd.prog 11 #[.string a, .string b, .string c] w fun e w' => e = .returned (.bool true) ∧ Below w.heap.size w w' := by
  unfold maxLen at ha hb hc
  have HKS := Lib.hid (And.intro hK hS)
  clear hK hS
  by_cases ga : a.size ≤ 1048576
  case neg =>
    go_enter Tryd.func11, Tryd.ntmps11
    go_wp2
    go_ret
    exact ⟨rfl, Below.refl _ _⟩
  by_cases gb : b.size ≤ 1048576
  case neg =>
    go_enter Tryd.func11, Tryd.ntmps11
    go_wp2
    go_ret
    exact ⟨rfl, Below.refl _ _⟩
  by_cases gc : c.size ≤ 1048576
  case neg =>
    go_enter Tryd.func11, Tryd.ntmps11
    go_wp2
    go_ret
    exact ⟨rfl, Below.refl _ _⟩
  go_enter Tryd.func11, Tryd.ntmps11
  go_wp2_with fail
  refine (hmacOk_s a b c _ (by omega) (by omega)).mono ?_
  rintro e w1 ⟨rfl, hb1⟩
  go_wp2_with fail
  refine (hmacOk_i a b c _ (by omega) (by omega) (HKS.out.1.below hb1) (HKS.out.2.below hb1)).mono ?_
  rintro e w2 ⟨rfl, hb2⟩
  go_wp2
  go_ret
  exact ⟨rfl, hb1.trans (hb2.mono hb1.size)⟩
theorem law_CutMark (a : ByteArray) (b : ByteArray) (n : Int) (w : World) (ha : a.size ≤ maxLen) (hb : b.size ≤ maxLen) (hn : (Lit.int .i64 n).wf = true) (hK : HoldsK w) (hS : HoldsS w) : Calls Tryd.prog 13 #[.string a, .string b, .int .i64 n] w fun e w' => e = .returned (.bool true) ∧ Below w.heap.size w w' := by
  unfold maxLen at ha hb
  have HKS := Lib.hid (And.intro hK hS)
  clear hK hS
  by_cases ga : a.size ≤ 1048576
  case neg =>
    go_enter Tryd.func13, Tryd.ntmps13
    go_wp2
    go_ret
    exact ⟨rfl, Below.refl _ _⟩
  by_cases gb : b.size ≤ 1048576
  case neg =>
    go_enter Tryd.func13, Tryd.ntmps13
    go_wp2
    go_ret
    exact ⟨rfl, Below.refl _ _⟩
  go_enter Tryd.func13, Tryd.ntmps13
  go_wp2_with fail
  refine (cutMark_s a b n _ (by omega) (by omega)).mono ?_
  rintro e w1 ⟨rfl, hb1⟩
  go_wp2_with fail
  refine (cutMark_i a b n _ (by omega) (by omega) (HKS.out.1.below hb1) (HKS.out.2.below hb1)).mono ?_
  rintro e w2 ⟨rfl, hb2⟩
  go_wp2
  go_ret
  exact ⟨rfl, hb1.trans (hb2.mono hb1.size)⟩
theorem law_TokenOf (a : ByteArray) (w : World) (ha : a.size ≤ maxLen) (hK : HoldsK w) (hS : HoldsS w) : Calls Tryd.prog 12 #[.string a] w fun e w' => e = .returned (.bool true) ∧ Below w.heap.size w w' := by
  unfold maxLen at ha
  have HKS := Lib.hid (And.intro hK hS)
  clear hK hS
  by_cases ga : a.size ≤ 1048576
  case neg =>
    go_enter Tryd.func12, Tryd.ntmps12
    go_wp2
    go_ret
    exact ⟨rfl, Below.refl _ _⟩
  go_enter Tryd.func12, Tryd.ntmps12
  go_wp2_with fail
  refine (tokenOf_s a _).mono ?_
  rintro e w1 ⟨rfl, hb1⟩
  go_wp2_with fail
  refine (tokenOf_i a _ (HKS.out.1.below hb1) (HKS.out.2.below hb1)).mono ?_
  rintro e w2 ⟨rfl, hb2⟩
  go_wp2
  go_ret
  exact ⟨rfl, hb1.trans (hb2.mono hb1.size)⟩
theorem law_StartOf (a : ByteArray) (w : World) (ha : a.size ≤ maxLen) (hK : HoldsK w) (hS : HoldsS w) : Calls Tryd.prog 6 #[.string a] w fun e w' => e = .returned (.bool true) ∧ Below w.heap.size w w' := by
  unfold maxLen at ha
  have HKS := Lib.hid (And.intro hK hS)
  clear hK hS
  by_cases ga : a.size ≤ 1048576
  case neg =>
    go_enter Tryd.func6, Tryd.ntmps6
    go_wp2
    go_ret
    exact ⟨rfl, Below.refl _ _⟩
  go_enter Tryd.func6, Tryd.ntmps6
  go_wp2_with fail
  refine (startOf_s a _).mono ?_
  rintro e w1 ⟨rfl, hb1⟩
  go_wp2_with fail
  refine (startOf_i a _ (HKS.out.1.below hb1) (HKS.out.2.below hb1)).mono ?_
  rintro e w2 ⟨rfl, hb2⟩
  go_wp2
  go_ret
  exact ⟨rfl, hb1.trans (hb2.mono hb1.size)⟩
end Go.Proofs.YtmhekefjlepfpaaDoor

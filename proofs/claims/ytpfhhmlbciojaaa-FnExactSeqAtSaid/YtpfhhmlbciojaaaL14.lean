/- The walk of the law of SeqAt. -/
import Derived.Test.YtpfhhmlbciojaaaProg
import Derived.Test.YtpfhhmlbciojaaaK
import Derived.Test.YtpfhhmlbciojaaaK2
import Derived.Test.YtpfhhmlbciojaaaK4
import Derived.Test.YtpfhhmlbciojaaaM4
import Derived.Test.YtpfhhmlbciojaaaA10
namespace Go.Proofs.Ytpfhhmlbciojaaa
open Go.RowKit
set_option linter.unusedVariables false
set_option linter.unusedSimpArgs false
set_option maxRecDepth 100000 in
set_option maxHeartbeats 1600000 in
theorem law_SeqAt (v : Value) (n : Nat) (xs : List Int) (a : Int) (w : World) (hv : Rd w 3 v n (xs.map vn)) (ha : (Lit.int .i64 a).wf = true) : Calls Try.prog 7 #[v, .int .i64 a] w fun e w' => e = .returned (.bool true) ∧ Below w.heap.size w w' := by
  have HV := Lib.hid hv
  clear hv ha
  by_cases hn : n ≤ 1048576
  case neg =>
    go_enter Try.func7, Try.ntmps7
    go_wp2_with fail
    refine (szMapS_l_big v n _ 1048576 _ HV.out (by omega) (by omega)).mono ?_
    rintro e w1 ⟨rfl, rfl⟩
    go_wp2
    go_ret
    exact ⟨rfl, Below.refl _ _⟩
  obtain ⟨q, hq⟩ : ∃ q, q = 1048576 - n := ⟨_, rfl⟩
  have HQ := Lib.hid hq
  clear hq
  obtain ⟨bt, hbt⟩ : ∃ b, b = seqB xs n a := ⟨_, rfl⟩
  have HBT := Lib.hid hbt
  clear hbt
  obtain ⟨vt, hvt⟩ : ∃ b, b = seqV xs n a := ⟨_, rfl⟩
  have HVT := Lib.hid hvt
  clear hvt
  have HNN := Lib.hid hn
  clear hn
  go_enter Try.func7, Try.ntmps7
  go_wp2_with fail
  refine (szMapS_l v n _ 1048576 _ HV.out (by omega) HNN.out).mono ?_
  rintro e w0 ⟨rfl, rfl⟩
  rw [← HQ.out]
  go_wp2_with fail
  refine (toMapS_l v n xs _ HV.out (by have := HNN.out; omega)).mono ?_
  rintro e w1 ⟨g1, rfl, ho1, hb1⟩
  have O1 := Lib.hid ho1
  have L1 := Lib.hid hb1
  clear ho1 hb1
  go_wp2_with fail
  refine (seqAt_s g1 n xs a _ O1.out.rd).mono ?_
  rintro e w2 ⟨rfl, hb2⟩
  rw [← HBT.out, ← HVT.out]
  have L2 := Lib.hid (L1.out.trans (hb2.mono L1.out.size))
  clear hb2
  have V2 := Lib.hid (HV.out.below L2.out)
  go_wp2_with fail
  refine (toMapS_l v n xs _ V2.out (by have := HNN.out; omega)).mono ?_
  rintro e w3 ⟨g2, rfl, ho3, hb3⟩
  have O3 := Lib.hid ho3
  have L3 := Lib.hid (L2.out.trans (hb3.mono L2.out.size))
  clear ho3 hb3
  go_wp2_with fail
  refine (seqAt_i g2 n xs a _ O3.out.rd).mono ?_
  rintro e w4 ⟨rfl, hb4⟩
  rw [← HBT.out, ← HVT.out]
  have L4 := Lib.hid (L3.out.trans (hb4.mono L3.out.size))
  have O4 := Lib.hid (O3.out.below hb4)
  clear hb4
  have V4 := Lib.hid (HV.out.below L4.out)
  go_wp2_with fail
  refine (toMapS_l v n xs _ V4.out (by have := HNN.out; omega)).mono ?_
  rintro e w5 ⟨g3, rfl, ho5, hb5⟩
  have O5 := Lib.hid ho5
  have L5 := Lib.hid (L4.out.trans (hb5.mono L4.out.size))
  have O45 := Lib.hid (O4.out.below hb5)
  clear ho5 hb5
  go_wp2_with fail
  refine (eqMapS_l g2 g3 n xs _ O45.out.rd O5.out.rd).mono ?_
  rintro e w6 ⟨rfl, hb6⟩
  have L6 := Lib.hid (L5.out.trans (hb6.mono L5.out.size))
  clear hb6
  go_wp2
  go_ret
  exact ⟨rfl, L6.out⟩
end Go.Proofs.Ytpfhhmlbciojaaa

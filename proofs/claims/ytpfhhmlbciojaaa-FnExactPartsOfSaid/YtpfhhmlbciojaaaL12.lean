/- The walk of the law of PartsOf. -/
import Derived.Test.YtpfhhmlbciojaaaProg
import Derived.Test.YtpfhhmlbciojaaaK
import Derived.Test.YtpfhhmlbciojaaaK2
import Derived.Test.YtpfhhmlbciojaaaK4
import Derived.Test.YtpfhhmlbciojaaaA8
import Derived.Test.YtpfhhmlbciojaaaM3
namespace Go.Proofs.Ytpfhhmlbciojaaa
open Go.RowKit
set_option linter.unusedVariables false
set_option linter.unusedSimpArgs false
theorem ptS_len (s : ByteArray) : ∀ i, (ptS s i).1.length ≤ i
  | 0 => Nat.le_refl _
  | i + 1 => by
    have := ptS_len s i
    rw [ptS]
    split
    · split
      · dsimp only; split <;> simp <;> omega
      · omega
    · dsimp only; split <;> simp <;> omega
theorem ptL_len (s : ByteArray) : (ptL s).length ≤ 12 := by
  unfold ptL
  split
  · rename_i h
    unfold ptB at h
    simp only [Bool.and_eq_true, decide_eq_true_eq] at h
    exact h.2
  · simp
set_option maxRecDepth 100000 in
set_option maxHeartbeats 1600000 in
theorem law_PartsOf (s : ByteArray) (w : World) (hs : s.size ≤ maxLen) : Calls Try.prog 5 #[.string s] w fun e w' => e = .returned (.bool true) ∧ Below w.heap.size w w' := by
  have HL := Lib.hid (show s.size ≤ 9223372036854775807 from by unfold maxLen at hs; exact hs)
  by_cases hb : s.size ≤ 1048576
  case neg =>
    go_enter Try.func5, Try.ntmps5
    go_wp2
    go_ret
    exact ⟨rfl, Below.refl _ _⟩
  obtain ⟨L, hL⟩ : ∃ L, L = ptL s := ⟨_, rfl⟩
  obtain ⟨n, hn⟩ : ∃ n, n = L.length := ⟨_, rfl⟩
  have hn12 : n ≤ 12 := by rw [hn, hL]; exact ptL_len s
  obtain ⟨bt, hbt⟩ : ∃ b, b = ptB s := ⟨_, rfl⟩
  have HLL := Lib.hid hL
  have HNN := Lib.hid hn
  have HBT := Lib.hid hbt
  clear hL hn hbt
  have KI : Hid (∀ W, Calls Try.prog 20 #[.string s] W fun e w' => ∃ v, e = .returned (.tuple #[v, .bool bt]) ∧ Obs w' W.heap.size 1 v n (L.map vs) ∧ Below W.heap.size W w') := Lib.hid fun W => by
    rw [HBT.out, HNN.out, HLL.out]; exact partsOf_i s W HL.out
  have KS : Hid (∀ W, Calls Try.prog 19 #[.string s] W fun e w' => ∃ v, e = .returned (.tuple #[v, .bool bt]) ∧ Obs w' W.heap.size 1 v n (L.map vs) ∧ Below W.heap.size W w') := Lib.hid fun W => by
    rw [HBT.out, HNN.out, HLL.out]; exact partsOf_s s W HL.out
  go_enter Try.func5, Try.ntmps5
  go_wp2_with fail
  refine (KS.out _).mono ?_
  rintro e w1 ⟨v0, rfl, ho0, hb1⟩
  have O0 := Lib.hid ho0
  have L1 := Lib.hid hb1
  clear ho0 hb1
  go_wp2_with fail
  refine (KI.out _).mono ?_
  rintro e w2 ⟨g0, rfl, hog, hb2⟩
  have OG := Lib.hid hog
  have L2 := Lib.hid hb2
  clear hog hb2
  have O02 := Lib.hid (O0.out.below L2.out)
  go_wp2_with fail
  refine (eqStringS_l g0 v0 n L _ OG.out.rd O02.out.rd).mono ?_
  rintro e w3 ⟨rfl, hb3⟩
  have L3 := Lib.hid hb3
  clear hb3
  have OG3 := Lib.hid (OG.out.below L3.out)
  have O03 := Lib.hid (O02.out.below L3.out)
  go_wp2_with fail
  refine (markStringS_l g0 n L 1 w1.heap.size _ (Nat.le_trans L2.out.size L3.out.size) OG3.out (by omega) (by omega) (by omega)).mono ?_
  rintro e w4 ⟨rfl, hm4, hon⟩
  have OG4 := Lib.hid hm4
  have ON := Lib.hid hon
  clear hm4 hon
  go_wp2_with fail
  refine (heldStringS_l g0 n 1 _ OG4.out.rd (by omega) (by omega) (by omega)).mono ?_
  rintro e w5 ⟨rfl, hb5⟩
  have L5 := Lib.hid hb5
  clear hb5
  have L4 : Hid (Below w1.heap.size w1 w4) := Lib.hid (Below.only (L2.out.trans (L3.out.mono L2.out.size)) ON.out (fun g hg => (OG3.out.lt g hg).1) (Nat.le_trans L2.out.size L3.out.size))
  have L45 : Hid (Below w1.heap.size w1 w5) := Lib.hid (L4.out.trans (L5.out.mono L4.out.size))
  have O05 := Lib.hid (O0.out.below L45.out)
  have OG5 := Lib.hid (OG4.out.below L5.out)
  go_wp2_with fail
  refine (KI.out _).mono ?_
  rintro e w6 ⟨h0, rfl, hoh, hb6⟩
  have OH := Lib.hid hoh
  have L6 := Lib.hid hb6
  clear hoh hb6
  have OG6 := Lib.hid (OG5.out.below L6.out)
  have O06 := Lib.hid (O05.out.below L6.out)
  go_wp2_with fail
  refine (eqStringS_l h0 v0 n L _ OH.out.rd O06.out.rd).mono ?_
  rintro e w7 ⟨rfl, hb7⟩
  have L7 := Lib.hid hb7
  clear hb7
  have OG7 := Lib.hid (OG6.out.below L7.out)
  go_wp2_with fail
  refine (heldStringS_l g0 n 1 _ OG7.out.rd (by omega) (by omega) (by omega)).mono ?_
  rintro e w8 ⟨rfl, hb8⟩
  have L8 := Lib.hid hb8
  clear hb8
  go_wp2
  go_ret
  refine ⟨rfl, ?_⟩
  have m1 := L1.out.trans (L45.out.mono L1.out.size)
  have m2 := L6.out.trans (L7.out.mono L6.out.size)
  have m3 := m2.trans (L8.out.mono m2.size)
  exact m1.trans (m3.mono m1.size)
end Go.Proofs.Ytpfhhmlbciojaaa

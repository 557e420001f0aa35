/- The walks: ReadDecimal. -/
import Derived.Test.YtpfhhmlbciojaaaProg
import Derived.Test.YtpfhhmlbciojaaaK
import Derived.Test.YtpfhhmlbciojaaaK2
import Derived.Test.YtpfhhmlbciojaaaA6
import Derived.OpenShut
import Derived.LoopN
namespace Go.Proofs.Ytpfhhmlbciojaaa
open Go.RowKit
set_option linter.unusedVariables false
set_option linter.unusedSimpArgs false

set_option maxHeartbeats 1600000 in
theorem readDecimal_i_ok (s : ByteArray) (w : World) (h1 : 1 ≤ s.size) (h10 : s.size ≤ 10) :
    Calls Try.prog 17 #[.string s] w fun e w' => e = .returned (.tuple #[.int .i64 (rdN s : Nat), .bool (rdB s)]) ∧ Below w.heap.size w w' := by
  have hne : s.toList.isEmpty = false := by rw [ByteArray.toList_eq]; exact notEmpty h1
  go_enter Try.func17, Try.ntmps17
  go_wp2
  go_loopw [4, 5] (fun n i wr => ∃ k : Nat, k ≤ s.size ∧ i = .int .i64 (k : Int) ∧ n = .int .i64 (valD (s.data.toList.take k) : Nat) ∧ Hid ((s.data.toList.take k).all isDig = true) ∧ Below w.heap.size w wr) (fun _ i _ => s.size - (intOf i).toNat)
  case atStart => exact ⟨0, Nat.zero_le _, rfl, rfl, Lib.hid (by simp), Below.refl _ _⟩
  case round =>
    obtain ⟨k, hk, rfl, rfl, HA, hnx⟩ := hrel
    by_cases hlt : k < s.size
    · have hx1 := s[k].toNat_lt
      have hv := valD_small HA.out (by simp; omega)
      by_cases c1 : s[k].toNat < 48
      · have HB : Hid (rdB s = false) := Lib.hid (by
          cases h : rdB s
          · rfl
          · have := rdB_dig h k hlt
            unfold isDig at this
            simp only [Bool.and_eq_true, decide_eq_true_eq] at this
            omega)
        go_wp2
        go_ret2
        exact ⟨by rw [rdN_no HB.out, HB.out]; rfl, hnx⟩
      · by_cases c2 : 57 < s[k].toNat
        · have HB : Hid (rdB s = false) := Lib.hid (by
            cases h : rdB s
            · rfl
            · have := rdB_dig h k hlt
              unfold isDig at this
              simp only [Bool.and_eq_true, decide_eq_true_eq] at this
              omega)
          go_wp2
          go_ret2
          exact ⟨by rw [rdN_no HB.out, HB.out]; rfl, hnx⟩
        · have HTS := Lib.hid (take_succ_bytes s k hlt)
          have HA2 : Hid ((s.data.toList.take (k + 1)).all isDig = true) := Lib.hid (by
            rw [HTS.out, List.all_append, HA.out]
            simp [isDig]
            omega)
          have HV : Hid (valD (s.data.toList.take (k + 1)) = 10 * valD (s.data.toList.take k) + (s[k].toNat - 48)) := Lib.hid (by rw [HTS.out, valD_snoc])
          go_wp2
          go_roundw
          case rel => exact ⟨k + 1, hlt, by go_num, congrArg (Value.int .i64) (by rw [HV.out]; omega), HA2, hnx⟩
          case measure => simp [intOf]; omega
    · obtain rfl : k = s.size := by omega
      have hE : s.data.toList.take s.size = s.data.toList := List.take_of_length_le (by simp)
      rw [hE] at HA ⊢
      have hv := valD_small HA.out (by simp; omega)
      have HR : Hid (rdB s = (decide (valD s.data.toList ≤ 1000000000) && (decD (valD s.data.toList) == s.data.toList))) := Lib.hid (by
        unfold rdB; rw [HA.out, decide_eq_true h10]; simp)
      clear hE
      have HW := Lib.hid (show (Lit.int .i64 (valD s.data.toList : Int)).wf = true from WalkArith.wf_i64 (by omega))
      have HD : Hid (decL (valD s.data.toList : Int) = decD (valD s.data.toList)) := Lib.hid (by unfold decL; rw [if_neg (by omega)]; simp)
      by_cases c1 : 1000000000 < valD s.data.toList
      · have HB : Hid (rdB s = false) := Lib.hid (by rw [HR.out, decide_eq_false (by omega)]; rfl)
        go_wp2
        go_ret2
        exact ⟨by rw [rdN_no HB.out, HB.out]; rfl, hnx⟩
      · by_cases c2 : decD (valD s.data.toList) = s.data.toList
        · have HB : Hid (rdB s = true) := Lib.hid (by rw [HR.out, decide_eq_true (by omega), c2]; simp)
          have HN : Hid (rdN s = valD s.data.toList) := Lib.hid (by unfold rdN; rw [if_pos HB.out])
          have hc : ∀ W, Calls Try.prog 12 #[.int .i64 (valD s.data.toList : Nat)] W fun e w' => e = .returned (.string s) ∧ Below W.heap.size W w' := fun W => by
            have := decimal_i (valD s.data.toList : Int) W HW.out
            rw [HD.out, c2, str_of] at this
            exact this
          have HC := Lib.hid hc
          clear hc c2
          go_wp2_with (go_at_call 12; refine (HC.out _).mono ?_; rintro e w1 ⟨rfl, hb1⟩)
          go_ret2
          exact ⟨by rw [HN.out, HB.out]; rfl, hnx.trans (hb1.mono hnx.size)⟩
        · have HB : Hid (rdB s = false) := Lib.hid (by rw [HR.out]; simp [c2])
          have hc : ∀ W, Calls Try.prog 12 #[.int .i64 (valD s.data.toList : Nat)] W fun e w' => e = .returned (.string (str (decD (valD s.data.toList)))) ∧ Below W.heap.size W w' := fun W => by
            have := decimal_i (valD s.data.toList : Int) W HW.out
            rw [HD.out] at this
            exact this
          have HC := Lib.hid hc
          clear hc
          have hne2 : ((str (decD (valD s.data.toList))).toList == s.toList) = false := by rw [ByteArray.toList_eq, ByteArray.toList_eq, str_toList]; simpa using c2
          clear c2
          go_wp2_with (go_at_call 12; refine (HC.out _).mono ?_; rintro e w1 ⟨rfl, hb1⟩)
          go_ret2
          exact ⟨by rw [rdN_no HB.out, HB.out]; rfl, hnx.trans (hb1.mono hnx.size)⟩


theorem rdB_zero {s : ByteArray} (h : s.size = 0) : rdB s = false := by
  unfold rdB
  have e : s.data.toList = [] := List.eq_nil_of_length_eq_zero (by simpa using h)
  have : (decD (valD s.data.toList) == s.data.toList) = false := by
    rw [beq_eq_false_iff_ne, e]
    exact decD_pos _
  rw [this]
  simp
theorem rdB_long {s : ByteArray} (h : 10 < s.size) : rdB s = false := by
  unfold rdB
  rw [decide_eq_false (by omega)]
  rfl
theorem readDecimal_i (s : ByteArray) (w : World) (hs : s.size ≤ 9223372036854775807) :
    Calls Try.prog 17 #[.string s] w fun e w' => e = .returned (.tuple #[.int .i64 (rdN s : Nat), .bool (rdB s)]) ∧ Below w.heap.size w w' := by
  by_cases h0 : s.size = 0
  · have HB := Lib.hid (rdB_zero h0)
    have hne : s.toList.isEmpty = true := by
      rw [ByteArray.toList_eq, List.isEmpty_iff]
      exact List.eq_nil_of_length_eq_zero (by simpa using h0)
    clear h0
    go_enter Try.func17, Try.ntmps17
    go_wp2
    go_ret2
    exact ⟨by rw [rdN_no HB.out, HB.out]; rfl, Below.refl _ _⟩
  · by_cases h10 : s.size ≤ 10
    · exact readDecimal_i_ok s w (by omega) h10
    · have HB := Lib.hid (rdB_long (s := s) (by omega))
      have hne : s.toList.isEmpty = false := by rw [ByteArray.toList_eq]; exact notEmpty (by omega)
      clear h0
      go_enter Try.func17, Try.ntmps17
      go_wp2
      go_ret2
      exact ⟨by rw [rdN_no HB.out, HB.out]; rfl, Below.refl _ _⟩
end Go.Proofs.Ytpfhhmlbciojaaa

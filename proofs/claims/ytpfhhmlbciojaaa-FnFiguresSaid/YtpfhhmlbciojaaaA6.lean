/- The walks: Decimal, ReadDecimal. -/
import Derived.Test.YtpfhhmlbciojaaaProg
import Derived.Test.YtpfhhmlbciojaaaK
import Derived.Test.YtpfhhmlbciojaaaK2
import Derived.Test.YtpfhhmlbciojaaaA1
import Derived.Test.YtpfhhmlbciojaaaA3
import Derived.OpenShut
namespace Go.Proofs.Ytpfhhmlbciojaaa
open Go.RowKit
set_option linter.unusedVariables false
set_option linter.unusedSimpArgs false

theorem neg_tmod (M : Nat) : (-(M : Int)).tmod 10 = -((M % 10 : Nat) : Int) := by rw [Int.neg_tmod, Int.tmod_eq_emod_of_nonneg (by omega)]; omega
theorem neg_tdiv (M : Nat) : (-(M : Int)).tdiv 10 = -((M / 10 : Nat) : Int) := by rw [Int.neg_tdiv, Int.tdiv_eq_ediv_of_nonneg (by omega)]; omega
set_option maxHeartbeats 1600000 in
theorem decimal_i_pos (N : Nat) (w : World) (hN : N ≤ 9223372036854775807) :
    Calls Try.prog 12 #[.int .i64 (N : Int)] w fun e w' => e = .returned (.string (str (decD N))) ∧ Below w.heap.size w w' := by
  obtain ⟨i0, hi, hz0, hz1, hz2⟩ := info_parts u8_info
  have hp : ¬ ((N : Int) < 0) := by omega
  have HL := Lib.hid (show (decD N).length ≤ 20 from decD_len N)
  have c1 : ¬ 9223372036854775807 < 1 + (decD N).length := by have := HL.out; omega
  have c2 : (str (decD N)).size = (decD N).length := str_size _
  go_enter Try.func12, Try.ntmps12
  go_wp2
  go_loopw [0, 3] (fun n v wr => ∃ (f M : Nat) (D : List UInt8), n = .int .i64 (M : Int) ∧ M < 10 ^ f ∧ M ≤ 9223372036854775807 ∧ f + D.length ≤ 20 ∧ Hid (decD N = decH f M ++ D) ∧ Obs wr w.heap.size 1 v D.length (D.map vb) ∧ Below w.heap.size w wr) (fun n _ _ => (intOf n).natAbs)
  case atStart => exact ⟨20, N, [], rfl, by omega, hN, by simp, Lib.hid (by simp [decD]), Obs.nil _ _ _, Below.refl _ _⟩
  case round =>
    obtain ⟨f, M, D, rfl, hf, hM, hD, HE, hob, hnx⟩ := hrel
    have HF := Lib.hid hf
    clear hf
    have HD := Lib.hid (one_byte (M % 10) (by omega))
    have q0 : (M : Int) % 10 < 10 := by omega
    have q1 : (0 : Int) ≤ (M : Int) % 10 := by omega
    by_cases hz : M / 10 = 0
    · have HN : Hid (decD N = UInt8.ofNat (48 + M % 10) :: D) := Lib.hid (by rw [HE.out, decH_last HF.out hz]; rfl)
      have hm9 : M < 10 := by omega
      have e1 : ((M : Int) / 10) = 0 := by omega
      have HZ := Lib.hid hz
      clear hz
      go_wp2_with (at_builtin; refine wpList_append_obs2 _ rfl _ _ 22 rfl w.heap.size 5 i0 (.int .u8 0) 1 1 Try.underlying22 hi hz0 hz1 hz2 rfl (by decide) _ 1 _ rfl (obs_one wr 5 _ w.heap.size hnx.size) w.heap.size _ D.length _ rfl (hob.alloc _) (vb_one _) (by unfold maxLen; omega) (by omega) (by have := hnx.size; simp; omega) ?_; intro v1 w1 ho1 hb1 _)
      have H1 : Hid (Obs w1 w.heap.size 1 v1 (UInt8.ofNat (48 + M % 10) :: D).length ((UInt8.ofNat (48 + M % 10) :: D).map vb)) := Lib.hid (by
        rw [List.length_cons, Nat.add_comm, List.map_cons, ← HD.out]
        exact ho1)
      have H2 := Lib.hid ((hnx.alloc hnx.size _).trans hb1)
      clear ho1 hb1 hob
      rw [← HN.out] at H1
      have hst := obs_string (P := Try.prog) w1 22 9 5 Try.underlying22 Try.underlying5 Try.underlying9 H1.out
      go_wp2
      rw [hst]
      go_wp2
      go_ret
      exact ⟨ret_str (by simp [str, ByteArray.ext_iff]), H2.out⟩
    · obtain ⟨f', hff, hh, hf'⟩ := decH_more HF.out hz
      have HN : Hid (decD N = decH f' (M / 10) ++ (UInt8.ofNat (48 + M % 10) :: D)) := Lib.hid (by rw [HE.out, hh]; simp)
      have HF' := Lib.hid hf'
      have HZ := Lib.hid hz
      have HD' := Lib.hid (show f' + (D.length + 1) ≤ 20 by omega)
      have e1 : (((M : Int) / 10) == 0) = false := by simp; omega
      clear hh hf' hz hff
      go_wp2_with (at_builtin; refine wpList_append_obs2 _ rfl _ _ 22 rfl w.heap.size 5 i0 (.int .u8 0) 1 1 Try.underlying22 hi hz0 hz1 hz2 rfl (by decide) _ 1 _ rfl (obs_one wr 5 _ w.heap.size hnx.size) w.heap.size _ D.length _ rfl (hob.alloc _) (vb_one _) (by unfold maxLen; omega) (by omega) (by have := hnx.size; simp; omega) ?_; intro v1 w1 ho1 hb1 _)
      have H1 : Hid (Obs w1 w.heap.size 1 v1 (UInt8.ofNat (48 + M % 10) :: D).length ((UInt8.ofNat (48 + M % 10) :: D).map vb)) := Lib.hid (by
        rw [List.length_cons, Nat.add_comm, List.map_cons, ← HD.out]
        exact ho1)
      have H2 := Lib.hid ((hnx.alloc hnx.size _).trans hb1)
      clear ho1 hb1 hob
      go_wp2
      go_roundw
      case rel => exact ⟨f', M / 10, UInt8.ofNat (48 + M % 10) :: D, by first | go_num | simp, HF'.out, by omega, HD'.out, HN, H1.out, H2.out⟩
      case measure => have := HZ.out; simp [intOf]; omega

set_option maxHeartbeats 1600000 in
theorem decimal_i_neg (N : Nat) (w : World) (h0 : 1 ≤ N) (hN : N ≤ 9223372036854775808) :
    Calls Try.prog 12 #[.int .i64 (-(N : Int))] w fun e w' => e = .returned (.string (str (45 :: decD N))) ∧ Below w.heap.size w w' := by
  obtain ⟨i0, hi, hz0, hz1, hz2⟩ := info_parts u8_info
  have hp : (-(N : Int)) < 0 := by omega
  have HL := Lib.hid (show (decD N).length ≤ 20 from decD_len N)
  have c1 : ¬ 9223372036854775807 < 1 + (decD N).length := by have := HL.out; omega
  have c2 : (str (decD N)).size = (decD N).length := str_size _
  go_enter Try.func12, Try.ntmps12
  go_wp2
  go_loopw [0, 3] (fun n v wr => ∃ (f M : Nat) (D : List UInt8), n = .int .i64 (-(M : Int)) ∧ M < 10 ^ f ∧ M ≤ 9223372036854775808 ∧ 1 ≤ M ∧ f + D.length ≤ 20 ∧ Hid (decD N = decH f M ++ D) ∧ Obs wr w.heap.size 1 v D.length (D.map vb) ∧ Below w.heap.size w wr) (fun n _ _ => (intOf n).natAbs)
  case atStart => exact ⟨20, N, [], rfl, by omega, hN, h0, by simp, Lib.hid (by simp [decD]), Obs.nil _ _ _, Below.refl _ _⟩
  case round =>
    obtain ⟨f, M, D, rfl, hf, hM, hM1, hD, HE, hob, hnx⟩ := hrel
    have HF := Lib.hid hf
    clear hf
    have q2 := neg_tdiv M
    rcases Nat.eq_zero_or_pos (M % 10) with mz | mz
    · have q1 : (-(M : Int)).tmod 10 = 0 := by rw [neg_tmod, mz]; rfl
      have HD : Hid (Value.int .u8 48 = vb (UInt8.ofNat (48 + M % 10))) := Lib.hid (by rw [mz]; rfl)
      have hz : M / 10 ≠ 0 := by omega
      obtain ⟨f', hff, hh, hf'⟩ := decH_more HF.out hz
      have HN : Hid (decD N = decH f' (M / 10) ++ (UInt8.ofNat (48 + M % 10) :: D)) := Lib.hid (by rw [HE.out, hh]; simp)
      have HF' := Lib.hid hf'
      have HZ := Lib.hid hz
      have HD' := Lib.hid (show f' + (D.length + 1) ≤ 20 by omega)
      have e1 : ((-((M : Int) / 10)) == 0) = false := by simp; omega
      have e3 : (((M : Int) / 10) == 0) = false := by simp; omega
      clear hh hf' hz hff
      go_wp2_with (at_builtin; refine wpList_append_obs2 _ rfl _ _ 22 rfl w.heap.size 5 i0 (.int .u8 0) 1 1 Try.underlying22 hi hz0 hz1 hz2 rfl (by decide) _ 1 _ rfl (obs_one wr 5 _ w.heap.size hnx.size) w.heap.size _ D.length _ rfl (hob.alloc _) (vb_one _) (by unfold maxLen; omega) (by omega) (by have := hnx.size; simp; omega) ?_; intro v1 w1 ho1 hb1 _)
      have H1 : Hid (Obs w1 w.heap.size 1 v1 (UInt8.ofNat (48 + M % 10) :: D).length ((UInt8.ofNat (48 + M % 10) :: D).map vb)) := Lib.hid (by
        rw [List.length_cons, Nat.add_comm, List.map_cons, ← HD.out]
        exact ho1)
      have H2 := Lib.hid ((hnx.alloc hnx.size _).trans hb1)
      clear ho1 hb1 hob
      go_wp2
      go_roundw
      case rel => exact ⟨f', M / 10, UInt8.ofNat (48 + M % 10) :: D, by first | go_num | simp, HF'.out, by omega, by have := HZ.out; omega, HD'.out, HN, H1.out, H2.out⟩
      case measure => have := HZ.out; simp [intOf]; omega
    · have q1 := neg_tmod M
      have HD := Lib.hid (one_byte (M % 10) (by omega))
      have q0 : (M : Int) % 10 < 10 := by omega
      have q3 : (0 : Int) < (M : Int) % 10 := by omega
      by_cases hz : M / 10 = 0
      · have HN : Hid (decD N = UInt8.ofNat (48 + M % 10) :: D) := Lib.hid (by rw [HE.out, decH_last HF.out hz]; rfl)
        have hm9 : M < 10 := by omega
        have e1 : (-((M : Int) / 10)) = 0 := by omega
        have e3 : ((M : Int) / 10) = 0 := by omega
        have HZ := Lib.hid hz
        clear hz
        go_wp2_with (at_builtin; refine wpList_append_obs2 _ rfl _ _ 22 rfl w.heap.size 5 i0 (.int .u8 0) 1 1 Try.underlying22 hi hz0 hz1 hz2 rfl (by decide) _ 1 _ rfl (obs_one wr 5 _ w.heap.size hnx.size) w.heap.size _ D.length _ rfl (hob.alloc _) (vb_one _) (by unfold maxLen; omega) (by omega) (by have := hnx.size; simp; omega) ?_; intro v1 w1 ho1 hb1 _)
        have H1 : Hid (Obs w1 w.heap.size 1 v1 (UInt8.ofNat (48 + M % 10) :: D).length ((UInt8.ofNat (48 + M % 10) :: D).map vb)) := Lib.hid (by
          rw [List.length_cons, Nat.add_comm, List.map_cons, ← HD.out]
          exact ho1)
        have H2 := Lib.hid ((hnx.alloc hnx.size _).trans hb1)
        clear ho1 hb1 hob
        rw [← HN.out] at H1
        have hst := obs_string (P := Try.prog) w1 22 9 5 Try.underlying22 Try.underlying5 Try.underlying9 H1.out
        go_wp2
        rw [hst]
        go_wp2
        go_ret
        exact ⟨ret_str (by simp [str, ByteArray.ext_iff]), H2.out⟩
      · obtain ⟨f', hff, hh, hf'⟩ := decH_more HF.out hz
        have HN : Hid (decD N = decH f' (M / 10) ++ (UInt8.ofNat (48 + M % 10) :: D)) := Lib.hid (by rw [HE.out, hh]; simp)
        have HF' := Lib.hid hf'
        have HZ := Lib.hid hz
        have HD' := Lib.hid (show f' + (D.length + 1) ≤ 20 by omega)
        have e1 : ((-((M : Int) / 10)) == 0) = false := by simp; omega
        have e3 : (((M : Int) / 10) == 0) = false := by simp; omega
        clear hh hf' hz hff
        go_wp2_with (at_builtin; refine wpList_append_obs2 _ rfl _ _ 22 rfl w.heap.size 5 i0 (.int .u8 0) 1 1 Try.underlying22 hi hz0 hz1 hz2 rfl (by decide) _ 1 _ rfl (obs_one wr 5 _ w.heap.size hnx.size) w.heap.size _ D.length _ rfl (hob.alloc _) (vb_one _) (by unfold maxLen; omega) (by omega) (by have := hnx.size; simp; omega) ?_; intro v1 w1 ho1 hb1 _)
        have H1 : Hid (Obs w1 w.heap.size 1 v1 (UInt8.ofNat (48 + M % 10) :: D).length ((UInt8.ofNat (48 + M % 10) :: D).map vb)) := Lib.hid (by
          rw [List.length_cons, Nat.add_comm, List.map_cons, ← HD.out]
          exact ho1)
        have H2 := Lib.hid ((hnx.alloc hnx.size _).trans hb1)
        clear ho1 hb1 hob
        go_wp2
        go_roundw
        case rel => exact ⟨f', M / 10, UInt8.ofNat (48 + M % 10) :: D, by first | go_num | simp, HF'.out, by omega, by have := HZ.out; omega, HD'.out, HN, H1.out, H2.out⟩
        case measure => have := HZ.out; simp [intOf]; omega
theorem decimal_i (n : Int) (w : World) (hn : (Lit.int .i64 n).wf = true) : Calls Try.prog 12 #[.int .i64 n] w fun e w' => e = .returned (.string (str (decL n))) ∧ Below w.heap.size w w' := by
  have hb := bounds_i64 hn
  by_cases h : n < 0
  · obtain ⟨N, rfl⟩ : ∃ N : Nat, n = -(N : Int) := ⟨n.natAbs, by omega⟩
    have := decimal_i_neg N w (by omega) (by omega)
    rw [show decL (-(N : Int)) = 45 :: decD N by unfold decL; rw [if_pos h]; simp]
    exact this
  · obtain ⟨N, rfl⟩ : ∃ N : Nat, n = (N : Int) := ⟨n.natAbs, by omega⟩
    rw [show decL (N : Int) = decD N by unfold decL; rw [if_neg h]; simp]
    exact decimal_i_pos N w (by omega)
end Go.Proofs.Ytpfhhmlbciojaaa

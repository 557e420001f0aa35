/- The walks: Decimal, ReadDecimal. -/
import Derived.Test.YtdhdgppdmgabiaaProg
import Derived.Test.YtdhdgppdmgabiaaK
import Derived.Test.YtdhdgppdmgabiaaK2
import Derived.Test.YtdhdgppdmgabiaaA1
import Derived.Test.YtdhdgppdmgabiaaA3
import Derived.OpenShut
namespace Go.Proofs.Ytdhdgppdmgabiaa
open Go.RowKit
set_option linter.unusedVariables false
set_option linter.unusedSimpArgs false

theorem neg_tmod (M : Nat) : (-(M : Int)).tmod 10 = -((M % 10 : Nat) : Int) := by rw [Int.neg_tmod, Int.tmod_eq_emod_of_nonneg (by omega)]; omega
theorem neg_tdiv (M : Nat) : (-(M : Int)).tdiv 10 = -((M / 10 : Nat) : Int) := by rw [Int.neg_tdiv, Int.tdiv_eq_ediv_of_nonneg (by omega)]; omega
set_option maxHeartbeats 1600000 in
theorem decimal_i_pos (N : Nat) (w : World) (hN : N ≤ 9223372036854775807) :
    Calls Try.prog 32 #[.int .i64 (N : Int)] w fun e w' => e = .returned (.string (str (decD N))) ∧ Below w.heap.size w w' := by
  obtain ⟨i0, hi, hz0, hz1, hz2⟩ := info_parts u8_info
  have hp : ¬ ((N : Int) < 0) := by omega
  have HL := Lib.hid (show (decD N).length ≤ 20 from decD_len N)
  have c1 : ¬ 9223372036854775807 < 1 + (decD N).length := by have := HL.out; omega
  have c2 : (str (decD N)).size = (decD N).length := str_size _
  go_enter Try.func32, Try.ntmps32
  go_wp2
  go_loopw [0, 3] (fun n v wr => ∃ (f M : Nat) (D : List UInt8), n = .int .i64 (M : Int) ∧ M < 10 ^ f ∧ M ≤ 9223372036854775807 ∧ f + D.length ≤ 20 ∧ Hid (decD N = decH f M ++ D) ∧ Obs wr w.heap.size 1 v D.length (D.map vb) ∧ Below w.heap.size w wr) (fun n _ _ => (intOf n).natAbs)
  case atStart => exact ⟨20, N, [], rfl, by omega, hN, by simp, Lib.hid (by simp [decD]), Obs.nil _ _ _, Below.refl _ _⟩
  case round =>
    obtain ⟨f, M, D, rfl, hf, hM, hD, HE, hob, hnx⟩ := hrel
    have HF := Lib.hid hf
    clear hf
    have HD := Lib.hid (one_byte (M % 10) (by omega))
    have q0 : (M : Int) % 10 < 10 := by omega
    have q1 : (0 : Int) ≤ (M : Int) % 10 := by omega
    by_cases hz : M / 10 = 0
    · have HN : Hid (decD N = UInt8.ofNat (48 + M % 10) :: D) := Lib.hid (by rw [HE.out, decH_last HF.out hz]; rfl)
      have hm9 : M < 10 := by omega
      have e1 : ((M : Int) / 10) = 0 := by omega
      have HZ := Lib.hid hz
      clear hz
      go_wp2_with (at_builtin; refine wpList_append_obs2 _ rfl _ _ 39 rfl w.heap.size 5 i0 (.int .u8 0) 1 1 Try.underlying39 hi hz0 hz1 hz2 rfl (by decide) _ 1 _ rfl (obs_one wr 5 _ w.heap.size hnx.size) w.heap.size _ D.length _ rfl (hob.alloc _) (vb_one _) (by unfold maxLen; omega) (by omega) (by have := hnx.size; simp; omega) ?_; intro v1 w1 ho1 hb1 _)
      have H1 : Hid (Obs w1 w.heap.size 1 v1 (UInt8.ofNat (48 + M % 10) :: D).length ((UInt8.ofNat (48 + M % 10) :: D).map vb)) := Lib.hid (by
        rw [List.length_cons, Nat.add_comm, List.map_cons, ← HD.out]
        exact ho1)
      have H2 := Lib.hid ((hnx.alloc hnx.size _).trans hb1)
      clear ho1 hb1 hob
      rw [← HN.out] at H1
      have hst := obs_string (P := Try.prog) w1 39 9 5 Try.underlying39 Try.underlying5 Try.underlying9 H1.out
      go_wp2
      rw [hst]
      go_wp2
      go_ret
      exact ⟨ret_str (by simp [str, ByteArray.ext_iff]), H2.out⟩
    · obtain ⟨f', hff, hh, hf'⟩ := decH_more HF.out hz
      have HN : Hid (decD N = decH f' (M / 10) ++ (UInt8.ofNat (48 + M % 10) :: D)) := Lib.hid (by rw [HE.out, hh]; simp)
      have HF' := Lib.hid hf'
      have HZ := Lib.hid hz
      have HD' := Lib.hid (show f' + (D.length + 1) ≤ 20 by omega)
      have e1 : (((M : Int) / 10) == 0) = false := by simp; omega
      clear hh hf' hz hff
      go_wp2_with (at_builtin; refine wpList_append_obs2 _ rfl _ _ 39 rfl w.heap.size 5 i0 (.int .u8 0) 1 1 Try.underlying39 hi hz0 hz1 hz2 rfl (by decide) _ 1 _ rfl (obs_one wr 5 _ w.heap.size hnx.size) w.heap.size _ D.length _ rfl (hob.alloc _) (vb_one _) (by unfold maxLen; omega) (by omega) (by have := hnx.size; simp; omega) ?_; intro v1 w1 ho1 hb1 _)
      have H1 : Hid (Obs w1 w.heap.size 1 v1 (UInt8.ofNat (48 + M % 10) :: D).length ((UInt8.ofNat (48 + M % 10) :: D).map vb)) := Lib.hid (by
        rw [List.length_cons, Nat.add_comm, List.map_cons, ← HD.out]
        exact ho1)
      have H2 := Lib.hid ((hnx.alloc hnx.size _).trans hb1)
      clear ho1 hb1 hob
      go_wp2
      go_roundw
      case rel => exact ⟨f', M / 10, UInt8.ofNat (48 + M % 10) :: D, by first | go_num | simp, HF'.out, by omega, HD'.out, HN, H1.out, H2.out⟩
      case measure => have := HZ.out; simp [intOf]; omega

set_option maxHeartbeats 1600000 in
theorem decimal_i_neg (N : Nat) (w : World) (h0 : 1 ≤ N) (hN : N ≤ 9223372036854775808) :
    Calls Try.prog 32 #[.int .i64 (-(N : Int))] w fun e w' => e = .returned (.string (str (45 :: decD N))) ∧ Below w.heap.size w w' := by
  obtain ⟨i0, hi, hz0, hz1, hz2⟩ := info_parts u8_info
  have hp : (-(N : Int)) < 0 := by omega
  have HL := Lib.hid (show (decD N).length ≤ 20 from decD_len N)
  have c1 : ¬ 9223372036854775807 < 1 + (decD N).length := by have := HL.out; omega
  have c2 : (str (decD N)).size = (decD N).length := str_size _
  go_enter Try.func32, Try.ntmps32
  go_wp2
  go_loopw [0, 3] (fun n v wr => ∃ (f M : Nat) (D : List UInt8), n = .int .i64 (-(M : Int)) ∧ M < 10 ^ f ∧ M ≤ 9223372036854775808 ∧ 1 ≤ M ∧ f + D.length ≤ 20 ∧ Hid (decD N = decH f M ++ D) ∧ Obs wr w.heap.size 1 v D.length (D.map vb) ∧ Below w.heap.size w wr) (fun n _ _ => (intOf n).natAbs)
  case atStart => exact ⟨20, N, [], rfl, by omega, hN, h0, by simp, Lib.hid (by simp [decD]), Obs.nil _ _ _, Below.refl _ _⟩
  case round =>
    obtain ⟨f, M, D, rfl, hf, hM, hM1, hD, HE, hob, hnx⟩ := hrel
    have HF := Lib.hid hf
    clear hf
    have q2 := neg_tdiv M
    rcases Nat.eq_zero_or_pos (M % 10) with mz | mz
    · have q1 : (-(M : Int)).tmod 10 = 0 := by rw [neg_tmod, mz]; rfl
      have HD : Hid (Value.int .u8 48 = vb (UInt8.ofNat (48 + M % 10))) := Lib.hid (by rw [mz]; rfl)
      have hz : M / 10 ≠ 0 := by omega
      obtain ⟨f', hff, hh, hf'⟩ := decH_more HF.out hz
      have HN : Hid (decD N = decH f' (M / 10) ++ (UInt8.ofNat (48 + M % 10) :: D)) := Lib.hid (by rw [HE.out, hh]; simp)
      have HF' := Lib.hid hf'
      have HZ := Lib.hid hz
      have HD' := Lib.hid (show f' + (D.length + 1) ≤ 20 by omega)
      have e1 : ((-((M : Int) / 10)) == 0) = false := by simp; omega
      have e3 : (((M : Int) / 10) == 0) = false := by simp; omega
      clear hh hf' hz hff
      go_wp2_with (at_builtin; refine wpList_append_obs2 _ rfl _ _ 39 rfl w.heap.size 5 i0 (.int .u8 0) 1 1 Try.underlying39 hi hz0 hz1 hz2 rfl (by decide) _ 1 _ rfl (obs_one wr 5 _ w.heap.size hnx.size) w.heap.size _ D.length _ rfl (hob.alloc _) (vb_one _) (by unfold maxLen; omega) (by omega) (by have := hnx.size; simp; omega) ?_; intro v1 w1 ho1 hb1 _)
      have H1 : Hid (Obs w1 w.heap.size 1 v1 (UInt8.ofNat (48 + M % 10) :: D).length ((UInt8.ofNat (48 + M % 10) :: D).map vb)) := Lib.hid (by
        rw [List.length_cons, Nat.add_comm, List.map_cons, ← HD.out]
        exact ho1)
      have H2 := Lib.hid ((hnx.alloc hnx.size _).trans hb1)
      clear ho1 hb1 hob
      go_wp2
      go_roundw
      case rel => exact ⟨f', M / 10, UInt8.ofNat (48 + M % 10) :: D, by first | go_num | simp, HF'.out, by omega, by have := HZ.out; omega, HD'.out, HN, H1.out, H2.out⟩
      case measure => have := HZ.out; simp [intOf]; omega
    · have q1 := neg_tmod M
      have HD := Lib.hid (one_byte (M % 10) (by omega))
      have q0 : (M : Int) % 10 < 10 := by omega
      have q3 : (0 : Int) < (M : Int) % 10 := by omega
      by_cases hz : M / 10 = 0
      · have HN : Hid (decD N = UInt8.ofNat (48 + M % 10) :: D) := Lib.hid (by rw [HE.out, decH_last HF.out hz]; rfl)
        have hm9 : M < 10 := by omega
        have e1 : (-((M : Int) / 10)) = 0 := by omega
        have e3 : ((M : Int) / 10) = 0 := by omega
        have HZ := Lib.hid hz
        clear hz
        go_wp2_with (at_builtin; refine wpList_append_obs2 _ rfl _ _ 39 rfl w.heap.size 5 i0 (.int .u8 0) 1 1 Try.underlying39 hi hz0 hz1 hz2 rfl (by decide) _ 1 _ rfl (obs_one wr 5 _ w.heap.size hnx.size) w.heap.size _ D.length _ rfl (hob.alloc _) (vb_one _) (by unfold maxLen; omega) (by omega) (by have := hnx.size; simp; omega) ?_; intro v1 w1 ho1 hb1 _)
        have H1 : Hid (Obs w1 w.heap.size 1 v1 (UInt8.ofNat (48 + M % 10) :: D).length ((UInt8.ofNat (48 + M % 10) :: D).map vb)) := Lib.hid (by
          rw [List.length_cons, Nat.add_comm, List.map_cons, ← HD.out]
          exact ho1)
        have H2 := Lib.hid ((hnx.alloc hnx.size _).trans hb1)
        clear ho1 hb1 hob
        rw [← HN.out] at H1
        have hst := obs_string (P := Try.prog) w1 39 9 5 Try.underlying39 Try.underlying5 Try.underlying9 H1.out
        go_wp2
        rw [hst]
        go_wp2
        go_ret
        exact ⟨ret_str (by simp [str, ByteArray.ext_iff]), H2.out⟩
      · obtain ⟨f', hff, hh, hf'⟩ := decH_more HF.out hz
        have HN : Hid (decD N = decH f' (M / 10) ++ (UInt8.ofNat (48 + M % 10) :: D)) := Lib.hid (by rw [HE.out, hh]; simp)
        have HF' := Lib.hid hf'
        have HZ := Lib.hid hz
        have HD' := Lib.hid (show f' + (D.length + 1) ≤ 20 by omega)
        have e1 : ((-((M : Int) / 10)) == 0) = false := by simp; omega
        have e3 : (((M : Int) / 10) == 0) = false := by simp; omega
        clear hh hf' hz hff
        go_wp2_with (at_builtin; refine wpList_append_obs2 _ rfl _ _ 39 rfl w.heap.size 5 i0 (.int .u8 0) 1 1 Try.underlying39 hi hz0 hz1 hz2 rfl (by decide) _ 1 _ rfl (obs_one wr 5 _ w.heap.size hnx.size) w.heap.size _ D.length _ rfl (hob.alloc _) (vb_one _) (by unfold maxLen; omega) (by omega) (by have := hnx.size; simp; omega) ?_; intro v1 w1 ho1 hb1 _)
        have H1 : Hid (Obs w1 w.heap.size 1 v1 (UInt8.ofNat (48 + M % 10) :: D).length ((UInt8.ofNat (48 + M % 10) :: D).map vb)) := Lib.hid (by
          rw [List.length_cons, Nat.add_comm, List.map_cons, ← HD.out]
          exact ho1)
        have H2 := Lib.hid ((hnx.alloc hnx.size _).trans hb1)
        clear ho1 hb1 hob
        go_wp2
        go_roundw
        case rel => exact ⟨f', M / 10, UInt8.ofNat (48 + M % 10) :: D, by first | go_num | simp, HF'.out, by omega, by have := HZ.out; omega, HD'.out, HN, H1.out, H2.out⟩
        case measure => have := HZ.out; simp [intOf]; omega
theorem decimal_s_zero (w : World) : Calls Try.prog 31 #[.int .i64 0] w fun e w' => e = .returned (.string (str (decD 0))) ∧ Below w.heap.size w w' := by
  go_enter Try.func31, Try.ntmps31
  go_wp2
  go_ret
  exact ⟨rfl, Below.refl _ _⟩
set_option maxHeartbeats 1600000 in
theorem decimal_s_pos (N : Nat) (w : World) (h0 : 1 ≤ N) (hN : N ≤ 9223372036854775807) :
    Calls Try.prog 31 #[.int .i64 (N : Int)] w fun e w' => e = .returned (.string (str (decD N))) ∧ Below w.heap.size w w' := by
  have hp : ¬ ((N : Int) < 0) := by omega
  have hp2 : ((N : Int) == 0) = false := by simp; omega
  have HDD : Hid (decD N = decG 20 N) := Lib.hid (by unfold decD decH; rw [if_neg (by omega)])
  have hl20 := decD_len N
  have HL := Lib.hid hl20
  clear hl20
  go_enter Try.func31, Try.ntmps31
  go_wp2
  clear hp2
  go_loopw [0, 4] (fun n v wr => ∃ (f M : Nat) (D : List UInt8), n = .int .i64 (M : Int) ∧ v = .string (str D) ∧ M < 10 ^ f ∧ M ≤ 9223372036854775807 ∧ f + D.length ≤ 20 ∧ Hid (decG 20 N = decG f M ++ D) ∧ Below w.heap.size w wr) (fun n _ _ => (intOf n).natAbs)
  case atStart => exact ⟨20, N, [], rfl, rfl, by omega, hN, by simp, Lib.hid (by simp), Below.refl _ _⟩
  case round =>
    obtain ⟨f, M, D, rfl, rfl, hf, hM, hD, HE, hnx⟩ := hrel
    by_cases h1 : 1 ≤ M
    · have hne : (((M : Int)) != 0) = true := by simp; omega
      have HX : Hid (str [hexC (M % 10)] ++ str D = str (UInt8.ofNat (48 + M % 10) :: D)) := Lib.hid (by
        unfold hexC; rw [if_pos (by omega)]; simp [str, ByteArray.ext_iff])
      have q1 : (0 : Int) ≤ (M : Int) % 10 := by omega
      have HC : Hid (((M : Int) % 10) = ((M % 10 : Nat) : Int)) := Lib.hid (by omega)
      obtain ⟨f', rfl, hh, hf'⟩ := decG_step (show M ≠ 0 by omega) hf
      have HN : Hid (decG 20 N = decG f' (M / 10) ++ (UInt8.ofNat (48 + M % 10) :: D)) := Lib.hid (by rw [HE.out, hh]; simp)
      have HF' := Lib.hid hf'
      have HD' := Lib.hid (show f' + (D.length + 1) ≤ 20 by omega)
      clear hh hf' hf
      have s1 : (str [hexC (M % 10)]).size = 1 := by simp [str_size]
      have s2 : (str D).size = D.length := str_size _
      have c1 : ¬ 9223372036854775807 < 1 + D.length := by omega
      have hst : ∀ W : World, Sem.run Try.prog (convert 39 9 (.slice (some ⟨W.heap.size, 0, none⟩) 1 1)) (W.alloc (.cells #[.int .u8 ((hexC (M % 10)).toNat : Int)] 5)) = .ok (.string (str [hexC (M % 10)])) (W.alloc (.cells #[.int .u8 ((hexC (M % 10)).toNat : Int)] 5)) := fun W => obs_string (P := Try.prog) _ 39 9 5 Try.underlying39 Try.underlying5 Try.underlying9 (obs_one W 5 _ W.heap.size (Nat.le_refl _))
      go_wp2_with (go_at_call 39; rw [HC.out]; refine (figure_s (M % 10) _ (by omega)).mono ?_; rintro e w' ⟨rfl, rfl⟩)
      go_roundw
      case rel => exact ⟨f', M / 10, UInt8.ofNat (48 + M % 10) :: D, by first | go_num | simp, by rw [HX.out], HF'.out, by omega, HD'.out, HN, hnx.alloc hnx.size _⟩
      case measure => simp [intOf]; omega
    · obtain rfl : M = 0 := by omega
      have HR : Hid (str D = str (decD N)) := Lib.hid (by rw [HDD.out, HE.out, decG_zero]; rfl)
      have s2 : (str D).size = D.length := str_size _
      have c1 : ¬ 9223372036854775807 < 1 + D.length := by omega
      go_wp2
      go_ret
      exact ⟨ret_str (by exact HR.out), hnx⟩

set_option maxHeartbeats 1600000 in
theorem decimal_s_neg (N : Nat) (w : World) (h0 : 1 ≤ N) (hN : N ≤ 9223372036854775808) :
    Calls Try.prog 31 #[.int .i64 (-(N : Int))] w fun e w' => e = .returned (.string (str (45 :: decD N))) ∧ Below w.heap.size w w' := by
  have hp : (-(N : Int)) < 0 := by omega
  have hp2 : ((-(N : Int)) == 0) = false := by simp; omega
  have HDD : Hid (decD N = decG 20 N) := Lib.hid (by unfold decD decH; rw [if_neg (by omega)])
  have hl20 := decD_len N
  have HL := Lib.hid hl20
  clear hl20
  go_enter Try.func31, Try.ntmps31
  go_wp2
  clear hp2
  go_loopw [0, 4] (fun n v wr => ∃ (f M : Nat) (D : List UInt8), n = .int .i64 (-(M : Int)) ∧ v = .string (str D) ∧ M < 10 ^ f ∧ M ≤ 9223372036854775808 ∧ f + D.length ≤ 20 ∧ Hid (decG 20 N = decG f M ++ D) ∧ Below w.heap.size w wr) (fun n _ _ => (intOf n).natAbs)
  case atStart => exact ⟨20, N, [], rfl, rfl, by omega, hN, by simp, Lib.hid (by simp), Below.refl _ _⟩
  case round =>
    obtain ⟨f, M, D, rfl, rfl, hf, hM, hD, HE, hnx⟩ := hrel
    by_cases h1 : 1 ≤ M
    · have hne : (((-(M : Int))) != 0) = true := by simp; omega
      have HX : Hid (str [hexC (M % 10)] ++ str D = str (UInt8.ofNat (48 + M % 10) :: D)) := Lib.hid (by
        unfold hexC; rw [if_pos (by omega)]; simp [str, ByteArray.ext_iff])
      have q2 := neg_tdiv M
      rcases Nat.eq_zero_or_pos (M % 10) with mz | mz
      · have q1 : (-(M : Int)).tmod 10 = 0 := by rw [neg_tmod, mz]; rfl
        have HC : Hid ((0 : Int) = ((M % 10 : Nat) : Int)) := Lib.hid (by rw [mz]; rfl)
        clear mz
        obtain ⟨f', rfl, hh, hf'⟩ := decG_step (show M ≠ 0 by omega) hf
        have HN : Hid (decG 20 N = decG f' (M / 10) ++ (UInt8.ofNat (48 + M % 10) :: D)) := Lib.hid (by rw [HE.out, hh]; simp)
        have HF' := Lib.hid hf'
        have HD' := Lib.hid (show f' + (D.length + 1) ≤ 20 by omega)
        clear hh hf' hf
        have s1 : (str [hexC (M % 10)]).size = 1 := by simp [str_size]
        have s2 : (str D).size = D.length := str_size _
        have c1 : ¬ 9223372036854775807 < 1 + D.length := by omega
        have hst : ∀ W : World, Sem.run Try.prog (convert 39 9 (.slice (some ⟨W.heap.size, 0, none⟩) 1 1)) (W.alloc (.cells #[.int .u8 ((hexC (M % 10)).toNat : Int)] 5)) = .ok (.string (str [hexC (M % 10)])) (W.alloc (.cells #[.int .u8 ((hexC (M % 10)).toNat : Int)] 5)) := fun W => obs_string (P := Try.prog) _ 39 9 5 Try.underlying39 Try.underlying5 Try.underlying9 (obs_one W 5 _ W.heap.size (Nat.le_refl _))
        go_wp2_with (go_at_call 39; rw [HC.out]; refine (figure_s (M % 10) _ (by omega)).mono ?_; rintro e w' ⟨rfl, rfl⟩)
        go_roundw
        case rel => exact ⟨f', M / 10, UInt8.ofNat (48 + M % 10) :: D, by first | go_num | simp, by rw [HX.out], HF'.out, by omega, HD'.out, HN, hnx.alloc hnx.size _⟩
        case measure => simp [intOf]; omega
      · have q1 := neg_tmod M
        have q3 : (0 : Int) < (M : Int) % 10 := by omega
        have HC : Hid (((M : Int) % 10) = ((M % 10 : Nat) : Int)) := Lib.hid (by omega)
        obtain ⟨f', rfl, hh, hf'⟩ := decG_step (show M ≠ 0 by omega) hf
        have HN : Hid (decG 20 N = decG f' (M / 10) ++ (UInt8.ofNat (48 + M % 10) :: D)) := Lib.hid (by rw [HE.out, hh]; simp)
        have HF' := Lib.hid hf'
        have HD' := Lib.hid (show f' + (D.length + 1) ≤ 20 by omega)
        clear hh hf' hf
        have s1 : (str [hexC (M % 10)]).size = 1 := by simp [str_size]
        have s2 : (str D).size = D.length := str_size _
        have c1 : ¬ 9223372036854775807 < 1 + D.length := by omega
        have hst : ∀ W : World, Sem.run Try.prog (convert 39 9 (.slice (some ⟨W.heap.size, 0, none⟩) 1 1)) (W.alloc (.cells #[.int .u8 ((hexC (M % 10)).toNat : Int)] 5)) = .ok (.string (str [hexC (M % 10)])) (W.alloc (.cells #[.int .u8 ((hexC (M % 10)).toNat : Int)] 5)) := fun W => obs_string (P := Try.prog) _ 39 9 5 Try.underlying39 Try.underlying5 Try.underlying9 (obs_one W 5 _ W.heap.size (Nat.le_refl _))
        go_wp2_with (go_at_call 39; rw [HC.out]; refine (figure_s (M % 10) _ (by omega)).mono ?_; rintro e w' ⟨rfl, rfl⟩)
        go_roundw
        case rel => exact ⟨f', M / 10, UInt8.ofNat (48 + M % 10) :: D, by first | go_num | simp, by rw [HX.out], HF'.out, by omega, HD'.out, HN, hnx.alloc hnx.size _⟩
        case measure => simp [intOf]; omega
    · obtain rfl : M = 0 := by omega
      have HR : Hid (str D = str (decD N)) := Lib.hid (by rw [HDD.out, HE.out, decG_zero]; rfl)
      have s2 : (str D).size = D.length := str_size _
      have c1 : ¬ 9223372036854775807 < 1 + D.length := by omega
      go_wp2
      go_ret
      exact ⟨ret_str (by rw [HR.out]; simp [str, ByteArray.ext_iff]), hnx⟩
theorem decimal_s (n : Int) (w : World) (hn : (Lit.int .i64 n).wf = true) : Calls Try.prog 31 #[.int .i64 n] w fun e w' => e = .returned (.string (str (decL n))) ∧ Below w.heap.size w w' := by
  have hb := bounds_i64 hn
  by_cases h : n < 0
  · obtain ⟨N, rfl⟩ : ∃ N : Nat, n = -(N : Int) := ⟨n.natAbs, by omega⟩
    have := decimal_s_neg N w (by omega) (by omega)
    rw [show decL (-(N : Int)) = 45 :: decD N by unfold decL; rw [if_pos h]; simp]
    exact this
  · obtain ⟨N, rfl⟩ : ∃ N : Nat, n = (N : Int) := ⟨n.natAbs, by omega⟩
    rw [show decL (N : Int) = decD N by unfold decL; rw [if_neg h]; simp]
    rcases Nat.eq_zero_or_pos N with rfl | h0
    · exact decimal_s_zero w
    · exact decimal_s_pos N w (by omega) (by omega)
theorem decimal_i (n : Int) (w : World) (hn : (Lit.int .i64 n).wf = true) : Calls Try.prog 32 #[.int .i64 n] w fun e w' => e = .returned (.string (str (decL n))) ∧ Below w.heap.size w w' := by
  have hb := bounds_i64 hn
  by_cases h : n < 0
  · obtain ⟨N, rfl⟩ : ∃ N : Nat, n = -(N : Int) := ⟨n.natAbs, by omega⟩
    have := decimal_i_neg N w (by omega) (by omega)
    rw [show decL (-(N : Int)) = 45 :: decD N by unfold decL; rw [if_pos h]; simp]
    exact this
  · obtain ⟨N, rfl⟩ : ∃ N : Nat, n = (N : Int) := ⟨n.natAbs, by omega⟩
    rw [show decL (N : Int) = decD N by unfold decL; rw [if_neg h]; simp]
    exact decimal_i_pos N w (by omega)
theorem law_Decimal (n : Int) (w : World) (hn : (Lit.int .i64 n).wf = true) : Calls Try.prog 12 #[.int .i64 n] w fun e w' => e = .returned (.bool true) ∧ Below w.heap.size w w' := by
  go_enter Try.func12, Try.ntmps12
  go_wp2_with (first | (go_at_call 31; refine (decimal_s _ _ hn).mono ?_; rintro e w1 ⟨rfl, hb1⟩) | (go_at_call 32; refine (decimal_i _ _ hn).mono ?_; rintro e w2 ⟨rfl, hb2⟩))
  go_ret
  exact ⟨rfl, hb1.trans (hb2.mono hb1.size)⟩
end Go.Proofs.Ytdhdgppdmgabiaa

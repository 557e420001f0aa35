/- The walks of the laws' helpers: rows of options and segments sized. -/
import Derived.Test.YtkgbkgonlopciaaK9
namespace Go.Proofs.Ytkgbkgonlopciaa
open Go.RowKit
set_option linter.unusedVariables false
set_option linter.unusedSimpArgs false
theorem od_in {os : List OD} {k : Nat} {o : OD} (h : os[k]? = some o) : o ∈ os := by
  obtain ⟨hk, rfl⟩ := List.getElem?_eq_some_iff.1 h
  exact List.getElem_mem hk
set_option maxRecDepth 100000 in
set_option maxHeartbeats 1600000 in
theorem szOptS_l (v : Value) (n : Nat) (os : List OD) (ivs : List Value) (k : Nat) (w : World) (hv : RdO w v n os ivs) (hk : k ≤ 9223372036854775807) (hn : n + sumO os ≤ k) :
    Calls Try.prog 56 #[v, .int .i64 (k : Int)] w fun e w' => e = .returned (.int .i64 ((k - (n + sumO os) : Nat) : Int)) ∧ Below w.heap.size w w' := by
  have e1 : (k : Int) - (n : Int) = ((k - n : Nat) : Int) := by omega
  obtain ⟨q, hq⟩ : ∃ q, q = k - n := ⟨_, rfl⟩
  rw [← hq] at e1
  have hqs : sumO os ≤ q := by omega
  have HF : Hid (k - (n + sumO os) = q - sumO os) := Lib.hid (by omega)
  rw [HF.out]
  have HS := Lib.hid hqs
  have HL := Lib.hid hv.lo
  obtain ⟨A0, c0, e0, hm⟩ := hv.shape
  unfold maxLen at hm
  have hqk : q ≤ 9223372036854775807 := by omega
  clear hqs hq hn HF
  have H := Lib.hid hv
  clear hv
  subst e0
  go_enter Try.func56, Try.ntmps56
  go_wp2
  go_loopw [1, 5] (fun l i wr => ∃ j : Nat, j ≤ n ∧ i = .int .i64 (j : Int) ∧ l = .int .i64 ((q - sumO (os.take j) : Nat) : Int) ∧ Hid (Below w.heap.size w wr)) (fun _ i _ => n - (intOf i).toNat)
  case atStart => exact ⟨0, Nat.zero_le _, rfl, by simp [sumO], Lib.hid (Below.refl _ _)⟩
  case round =>
    obtain ⟨j, hj, rfl, rfl, HN⟩ := hrel
    by_cases hlt : j < n
    · obtain ⟨b1, o1, c1, e0⟩ := H.out.full (by omega)
      simp only [Value.slice.injEq] at e0
      obtain ⟨rfl, _, rfl⟩ := e0
      obtain ⟨o, iv, ho, hiv, hB, hR⟩ := (H.out.below HN.out).at_ hlt
      have XB := Lib.hid hB
      have XR := Lib.hid hR
      obtain ⟨A1, cp1, rfl⟩ := RdO.shape1 hR
      obtain ⟨q2, hq2⟩ : ∃ q2, q2 = q - sumO (os.take j) := ⟨_, rfl⟩
      have hle := sumO_le ho
      have hst := sumO_step ho
      have hz : szO o ≤ q2 := by have := HS.out; omega
      have HZ := Lib.hid hz
      have HE : Hid (q2 - szO o = q - sumO (os.take (j + 1))) := Lib.hid (by omega)
      have h2k : q2 ≤ 9223372036854775807 := by omega
      rw [← hq2]
      clear hle hst hz hq2 hB hR ho hiv
      go_wp2_with (refine wpl_optLA rfl (by rfl) (by rfl) XB.out ?_)
      refine (szOpt_l o _ _ q2 wr XR.out (by omega) HZ.out).mono ?_
      rintro e w2 ⟨rfl, hb2⟩
      have HN2 := Lib.hid (HN.out.trans (hb2.mono HN.out.size))
      clear hb2
      rw [HE.out]
      go_wp2
      go_roundw
      case rel => exact ⟨j + 1, by omega, by go_num, rfl, HN2⟩
      case measure => simp [intOf]; omega
    · obtain rfl : j = n := by omega
      have HT : Hid (os.take j = os) := Lib.hid (List.take_of_length_le (by have := HL.out; omega))
      rw [HT.out]
      go_wp2
      go_ret
      exact ⟨rfl, HN.out⟩
set_option maxRecDepth 100000 in
set_option maxHeartbeats 1600000 in
theorem szOptS_l_big (v : Value) (n : Nat) (os : List OD) (ivs : List Value) (k : Nat) (w : World) (hv : RdO w v n os ivs) (hwf : ∀ o ∈ os, o.wf) (hk : k ≤ 9223372036854775807) (hn : k < n + sumO os) :
    Calls Try.prog 56 #[v, .int .i64 (k : Int)] w fun e w' => e = .returned (.int .i64 (-1)) ∧ Below w.heap.size w w' := by
  obtain ⟨A0, c0, e0, hm⟩ := hv.shape
  unfold maxLen at hm
  by_cases hkn : k < n
  · subst e0
    clear hv hwf hn
    go_enter Try.func56, Try.ntmps56
    go_wp2
    go_ret
    exact ⟨rfl, Below.refl _ _⟩
  have e1 : (k : Int) - (n : Int) = ((k - n : Nat) : Int) := by omega
  obtain ⟨q, hq⟩ : ∃ q, q = k - n := ⟨_, rfl⟩
  rw [← hq] at e1
  have hqs : q < sumO os := by omega
  have HS := Lib.hid hqs
  have HL := Lib.hid hv.lo
  have hqk : q ≤ 9223372036854775807 := by omega
  have HW := Lib.hid hwf
  clear hqs hq hn hwf
  have H := Lib.hid hv
  clear hv
  subst e0
  go_enter Try.func56, Try.ntmps56
  go_wp2
  go_loopw [1, 5] (fun l i wr => ∃ j : Nat, j ≤ n ∧ i = .int .i64 (j : Int) ∧ Hid (sumO (os.take j) ≤ q) ∧ l = .int .i64 ((q - sumO (os.take j) : Nat) : Int) ∧ Hid (Below w.heap.size w wr)) (fun _ i _ => n - (intOf i).toNat)
  case atStart => exact ⟨0, Nat.zero_le _, rfl, Lib.hid (by simp [sumO]), by simp [sumO], Lib.hid (Below.refl _ _)⟩
  case round =>
    obtain ⟨j, hj, rfl, HQ, rfl, HN⟩ := hrel
    by_cases hlt : j < n
    · obtain ⟨b1, o1, c1, e0⟩ := H.out.full (by omega)
      simp only [Value.slice.injEq] at e0
      obtain ⟨rfl, _, rfl⟩ := e0
      obtain ⟨o, iv, ho, hiv, hB, hR⟩ := (H.out.below HN.out).at_ hlt
      have XB := Lib.hid hB
      have XR := Lib.hid hR
      have XW := Lib.hid (HW.out o (od_in ho))
      obtain ⟨A1, cp1, rfl⟩ := RdO.shape1 hR
      obtain ⟨q2, hq2⟩ : ∃ q2, q2 = q - sumO (os.take j) := ⟨_, rfl⟩
      have hst := Lib.hid (sumO_step ho)
      have h2k : q2 ≤ 9223372036854775807 := by omega
      have HQ2 := Lib.hid hq2
      rw [← hq2]
      clear hq2 hB hR ho hiv
      by_cases hz : szO o ≤ q2
      · have HZ := Lib.hid hz
        clear hz
        go_wp2_with (refine wpl_optLA rfl (by rfl) (by rfl) XB.out ?_)
        refine (szOpt_l o _ _ q2 wr XR.out (by omega) HZ.out).mono ?_
        rintro e w2 ⟨rfl, hb2⟩
        have HN2 := Lib.hid (HN.out.trans (hb2.mono HN.out.size))
        clear hb2
        have HE : Hid (q2 - szO o = q - sumO (os.take (j + 1))) := Lib.hid (by rw [hst.out, HQ2.out]; omega)
        have HE2 : Hid (sumO (os.take (j + 1)) ≤ q) := Lib.hid (by have h1 := HZ.out; have h2 := HQ2.out; have h3 := HQ.out; rw [hst.out]; omega)
        rw [HE.out]
        go_wp2
        go_roundw
        case rel => exact ⟨j + 1, by omega, by go_num, HE2, rfl, HN2⟩
        case measure => simp [intOf]; omega
      · have HZ := Lib.hid hz
        clear hz
        go_wp2_with (refine wpl_optLA rfl (by rfl) (by rfl) XB.out ?_)
        refine (szOpt_l_big o _ _ q2 wr XR.out (by omega) (by have := XW.out.2.1.1; unfold maxLen at this; omega) (by have := XW.out.2.1.2; unfold maxLen at this; omega) (by have := HZ.out; omega)).mono ?_
        rintro e w2 ⟨rfl, hb2⟩
        have HN2 := Lib.hid (HN.out.trans (hb2.mono HN.out.size))
        clear hb2
        go_wp2
        go_ret
        exact ⟨rfl, HN2.out⟩
    · obtain rfl : j = n := by omega
      exact absurd HQ.out (by rw [List.take_of_length_le (by have := HL.out; omega)]; have := HS.out; omega)
set_option maxRecDepth 100000 in
set_option maxHeartbeats 1600000 in
theorem szSeg_l (x : SD) (ov : Value) (n : Nat) (ivs : List Value) (k : Nat) (w : World) (hv : RdO w ov n x.ops ivs) (hk : k ≤ 9223372036854775807) (hn : szX x ≤ k) :
    Calls Try.prog 21 #[vx x ov, .int .i64 (k : Int)] w fun e w' => e = .returned (.int .i64 ((k - szX x : Nat) : Int)) ∧ Below w.heap.size w w' := by
  have hlo := hv.lo
  obtain ⟨fr, tt, po, pe, sq, ak, fg, os, da⟩ := x
  unfold szX at hn ⊢
  unfold vx
  dsimp only at *
  have HV := Lib.hid hv
  clear hv
  obtain ⟨q, hq⟩ : ∃ q, q = k - (n + sumO os) := ⟨_, rfl⟩
  have hqk : q ≤ 9223372036854775807 := by omega
  have e2 : (q : Int) - (da.size : Int) = ((k - (os.length + sumO os + da.size) : Nat) : Int) := by omega
  obtain ⟨q3, hq3⟩ : ∃ q3, q3 = k - (os.length + sumO os + da.size) := ⟨_, rfl⟩
  rw [← hq3] at e2 ⊢
  have hq3k : q3 ≤ 9223372036854775807 := by omega
  have HQ := Lib.hid hq
  have HLE : Hid (n + sumO os ≤ k) := Lib.hid (by omega)
  clear hq hq3 hn hlo
  have hB := Lib.hid ((Below.refl w.heap.size w).alloc (Nat.le_refl _) (.cells #[.int .i64 fr, .int .i64 tt, .int .i64 po, .int .i64 pe, .int .i64 sq, .int .i64 ak, .int .i64 fg, ov, .string da] 32))
  go_enter Try.func21, Try.ntmps21
  go_wp2_with fail
  refine (szOptS_l ov n os ivs k _ (HV.out.below hB.out) hk HLE.out).mono ?_
  rw [← HQ.out]
  rintro e w1 ⟨rfl, hb⟩
  have HB := Lib.hid hb
  obtain ⟨hc, hf⟩ := Below.bcell hb
  clear hb
  go_wp2
  go_ret
  exact ⟨rfl, hB.out.trans (HB.out.mono (by simp))⟩
set_option maxRecDepth 100000 in
set_option maxHeartbeats 1600000 in
theorem szSeg_l_big (x : SD) (ov : Value) (n : Nat) (ivs : List Value) (k : Nat) (w : World) (hv : RdO w ov n x.ops ivs) (hwf : x.wf) (hk : k ≤ 9223372036854775807) (hn : k < szX x) :
    Calls Try.prog 21 #[vx x ov, .int .i64 (k : Int)] w fun e w' => e = .returned (.int .i64 (-1)) ∧ Below w.heap.size w w' := by
  have hlo := hv.lo
  have hda := hwf.2.1
  have hwo := hwf.2.2
  unfold maxLen at hda
  clear hwf
  obtain ⟨fr, tt, po, pe, sq, ak, fg, os, da⟩ := x
  unfold szX at hn
  unfold vx
  dsimp only at *
  have HV := Lib.hid hv
  have HW := Lib.hid hwo
  clear hv hwo
  have hB := Lib.hid ((Below.refl w.heap.size w).alloc (Nat.le_refl _) (.cells #[.int .i64 fr, .int .i64 tt, .int .i64 po, .int .i64 pe, .int .i64 sq, .int .i64 ak, .int .i64 fg, ov, .string da] 32))
  by_cases hle : n + sumO os ≤ k
  case neg =>
    have HLE : Hid (k < n + sumO os) := Lib.hid (by omega)
    clear hn hlo hle
    go_enter Try.func21, Try.ntmps21
    go_wp2_with fail
    refine (szOptS_l_big ov n os ivs k _ (HV.out.below hB.out) HW.out hk HLE.out).mono ?_
    rintro e w1 ⟨rfl, hb⟩
    have HB := Lib.hid hb
    clear hb
    go_wp2
    go_ret
    exact ⟨rfl, hB.out.trans (HB.out.mono (by simp))⟩
  obtain ⟨q, hq⟩ : ∃ q, q = k - (n + sumO os) := ⟨_, rfl⟩
  have hqk : q ≤ 9223372036854775807 := by omega
  have e2 : (q : Int) - (da.size : Int) < 0 := by omega
  have hqd : q < da.size := by omega
  have HQ := Lib.hid hq
  have HLE : Hid (n + sumO os ≤ k) := Lib.hid (by omega)
  clear hq hn hlo hle
  go_enter Try.func21, Try.ntmps21
  go_wp2_with fail
  refine (szOptS_l ov n os ivs k _ (HV.out.below hB.out) hk HLE.out).mono ?_
  rw [← HQ.out]
  rintro e w1 ⟨rfl, hb⟩
  have HB := Lib.hid hb
  obtain ⟨hc, hf⟩ := Below.bcell hb
  clear hb
  go_wp2
  go_ret
  exact ⟨rfl, hB.out.trans (HB.out.mono (by simp))⟩
end Go.Proofs.Ytkgbkgonlopciaa

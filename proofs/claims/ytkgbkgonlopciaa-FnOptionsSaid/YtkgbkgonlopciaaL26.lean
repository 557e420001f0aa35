/- The walk of the law of options: a right one comes back from its text, of another one nothing is told. -/
import Derived.Test.YtkgbkgonlopciaaD10
import Derived.Test.YtkgbkgonlopciaaK12
import Derived.Test.YtkgbkgonlopciaaA12
import Derived.Test.YtkgbkgonlopciaaA21
import Derived.Test.YtkgbkgonlopciaaA22
import Derived.Test.YtkgbkgonlopciaaA24
import Derived.Test.YtkgbkgonlopciaaA26
import Derived.Test.YtkgbkgonlopciaaP2
import Derived.Test.YtkgbkgonlopciaaM2
import Derived.Deep.Cut
import Derived.Deep.RegionHeld
namespace Go.Proofs.Ytkgbkgonlopciaa
open Go.RowKit
set_option linter.unusedVariables false
set_option linter.unusedSimpArgs false
theorem readO_back {o : OD} (h : optOk o = true) (l r : List UInt8) : readO (str (l ++ (optL o ++ r))) (l.length : Nat) = some o ∧ (l.length : Int) + 2 + numAtN (str (l ++ (optL o ++ r))) ((l.length : Nat) + 1) 1 = ((l.length + (optL o).length : Nat) : Int) ∧ 2 ≤ (optL o).length := by
  have hp : optL o <+: (str (l ++ (optL o ++ r))).data.toList.drop l.length := by
    rw [str_toList, List.drop_left]
    exact List.prefix_append _ _
  obtain ⟨h1, h2, h3⟩ := readP_back (p := fun n => n == 1) rfl rfl h hp
  refine ⟨h1, ?_, by omega⟩
  rw [show ((l.length : Nat) : Int) + 1 = ((l.length + 1 : Nat) : Int) by omega, h2]
  omega
set_option maxRecDepth 100000 in
set_option maxHeartbeats 3200000 in
theorem options_no (o : OD) (v : Value) (n : Nat) (xs : List Int) (w : World) (hv : Rd w 1 v n (xs.map (Value.int .u8))) (hz : ∀ x ∈ xs, (Lit.int .u8 x).wf = true) (hn : n ≤ 1048576) (hR : o = (anyX xs (newS xs n)).1) (hok : optOk o = false) :
    Calls Try.prog 11 #[v] w fun e w' => e = .returned (.bool true) ∧ Below w.heap.size w w' := by
  have HV := Lib.hid hv
  have HZ := Lib.hid (u8_range hz)
  have HR := Lib.hid hR
  have HOK := Lib.hid hok
  have HL : Hid (str (optL o) = ⟨#[]⟩) := Lib.hid (by rw [optL_no hok, str_nil'])
  have HL0 : Hid ((optL o).length = 0) := Lib.hid (by rw [optL_no hok]; rfl)
  clear hv hz hR hok
  go_enter Try.func11, Try.ntmps11
  have HB : Hid (decide (1048576 < (n : Int)) = false) := Lib.hid (by simp; omega)
  go_wp2_with fail
  refine (big_l v n _ _ HV.out).mono ?_
  rw [HB.out]
  rintro e w0 ⟨rfl, rfl⟩
  go_wp2_with fail
  refine (drawOptText_u v n xs _ HV.out HZ.out hn).mono ?_
  rw [← HR.out]
  rintro e w1 ⟨iv, rfl, ho, hb, hwf, hid⟩
  obtain ⟨A, cp, rfl⟩ := ho.shape
  have O1 := Lib.hid ho
  have L1 := Lib.hid hb
  have HWF := Lib.hid hwf
  clear ho hb hwf
  go_upto_region 4 with ((refine wpl_store_opt rfl (by rfl) (by rfl) (by rfl) ?_))
  obtain ⟨W, hW⟩ : ∃ W, W = w1.alloc (.cells (voC o (.slice A o.ids.length cp)).toArray 27) := ⟨_, rfl⟩
  rw [← hW]
  obtain ⟨b, hb⟩ : ∃ b, b = w1.heap.size := ⟨_, rfl⟩
  have X2 := Lib.hid (Bx.new w1 (voC o (.slice A o.ids.length cp)).toArray 27)
  have E2 := Lib.hid ((Below.refl w1.heap.size w1).alloc (Nat.le_refl _) (.cells (voC o (.slice A o.ids.length cp)).toArray 27))
  rw [← hW] at X2 E2
  rw [← hb] at X2 ⊢
  have O2 := Lib.hid (O1.out.below E2.out)
  have L2 := Lib.hid (L1.out.trans (E2.out.mono L1.out.size))
  clear hW hb O1 L1 E2
  go_wp2_with (refine wpl_opt (o := o) rfl (by rfl) (by rfl) X2.out ?_)
  refine (optText_i o A _ cp _ O2.out.rd (by omega) HWF.out).mono ?_
  rw [HL.out]
  rintro e w3 ⟨rfl, hb⟩
  have O3 := Lib.hid (O2.out.below hb)
  have X3 := Lib.hid (X2.out.below hb)
  have L3 := Lib.hid (L2.out.trans (hb.mono L2.out.size))
  clear hb O2 X2 L2
  go_wp2_with (refine wpl_opt (o := o) rfl (by rfl) (by rfl) X3.out ?_)
  refine (optOk_s' o A _ cp _ O3.out.rd HWF.out).mono ?_
  rw [HOK.out]
  rintro e w4 ⟨rfl, hb⟩
  have O4 := Lib.hid (O3.out.below hb)
  have X4 := Lib.hid (X3.out.below hb)
  have L4 := Lib.hid (L3.out.trans (hb.mono L3.out.size))
  clear hb O3 X3 L3
  go_upto_region 6 with (fail)
  refine wp_region_held_drew (S := fun w' => Bx w' b (voC o (.slice A o.ids.length cp)) ∧ Below w4.heap.size w4 w') (by kernel_rfl) ⟨X4.out.drew, (Below.refl _ w4).drew⟩ (fun hHeld => ?_)
  refine wpAnyH_take (i := 0) (oi := ⟨some 18, _, _, _, _, _⟩) (v := ?_) rfl (by kernel_rfl) (by kernel_rfl) (by kernel_rfl) (fun _ _ _ h => h) (Or.inl ⟨by kernel_rfl, ?_⟩) (by assumption) ?_
  rotate_left
  · (intro w hSw; (try dsimp only at hSw); go_simp; try (with_reducible rfl))
  try simp only [Act.put, List.setIfInBounds_toArray, List.set_cons_zero, List.set_cons_succ]
  refine wpAnyH_take (i := 1) (oi := ⟨some 19, _, _, _, _, _⟩) (v := ?_) rfl (by kernel_rfl) (by kernel_rfl) (by kernel_rfl) (fun _ _ _ h => h) (Or.inl ⟨by kernel_rfl, ?_⟩) (by assumption) ?_
  rotate_left
  · (intro w hSw; (try dsimp only at hSw); go_simp; try (with_reducible rfl))
  try simp only [Act.put, List.setIfInBounds_toArray, List.set_cons_zero, List.set_cons_succ]
  refine wpAnyH_take (i := 2) (oi := ⟨some 20, _, _, _, _, _⟩) (v := ?_) rfl (by kernel_rfl) (by kernel_rfl) (by kernel_rfl) (fun _ _ _ h => h) (Or.inl ⟨by kernel_rfl, ?_⟩) (by assumption) ?_
  rotate_left
  · (intro w hSw; (try dsimp only at hSw); go_simp; try (with_reducible rfl))
  try simp only [Act.put, List.setIfInBounds_toArray, List.set_cons_zero, List.set_cons_succ]
  refine wpAnyH_take (i := 3) (oi := ⟨some 21, _, _, _, _, _⟩) rfl (by kernel_rfl) (by kernel_rfl) (by kernel_rfl) (fun _ _ _ h => h) (yields_opt (by kernel_rfl) rfl (by rfl) (fun w h => h.1)) (by assumption) ?_
  try simp only [Act.put, List.setIfInBounds_toArray, List.set_cons_zero, List.set_cons_succ]
  refine wpAnyH_ready (rs := [4]) (by kernel_rfl) (by simp) ?_
  refine AllReadyH.cons (o := ⟨some 22, _, _, _, _, _⟩) rfl (fun K hK => ?_) AllReadyH.nil
  go_simp
  (go_at_call 36; refine (optOk_i o A _ cp _ O4.out.drew.rd (by omega) HWF.out).mono ?_; rw [HOK.out]; rintro e w5 ⟨rfl, hb5⟩)
  try go_wp2_with fail
  refine hK.out _ _ ?_ (fun hHeld => ?_)
  · exact ⟨X4.out.drew.below hb5, (Below.refl w4.heap.size w4).drew.trans hb5⟩
  clear hK K
  try simp only [Act.put, List.setIfInBounds_toArray, List.set_cons_zero, List.set_cons_succ]
  have O5 := Lib.hid (O4.out.drew.below hb5)
  have X5 := Lib.hid (X4.out.drew.below hb5)
  have B5 := Lib.hid ((Below.refl w4.heap.size w4).drew.trans hb5)
  clear hb5
  refine wpAnyH_take (i := 5) (oi := ⟨some 23, _, _, _, _, _⟩) (v := ?_) rfl (by kernel_rfl) (by kernel_rfl) (by kernel_rfl) (fun _ _ _ h => h) (Or.inl ⟨by kernel_rfl, ?_⟩) (by assumption) ?_
  rotate_left
  · (intro w hSw; (try dsimp only at hSw); go_simp; try (with_reducible rfl))
  try simp only [Act.put, List.setIfInBounds_toArray, List.set_cons_zero, List.set_cons_succ]
  refine wpAnyH_take (i := 6) (oi := ⟨some 24, _, _, _, _, _⟩) (v := ?_) rfl (by kernel_rfl) (by kernel_rfl) (by kernel_rfl) (fun _ _ _ h => h) (Or.inl ⟨by kernel_rfl, ?_⟩) (by assumption) ?_
  rotate_left
  · (intro w hSw; (try dsimp only at hSw); go_simp; try (with_reducible rfl))
  try simp only [Act.put, List.setIfInBounds_toArray, List.set_cons_zero, List.set_cons_succ]
  refine wpAnyH_take (i := 7) (oi := ⟨some 25, _, _, _, _, _⟩) (v := ?_) rfl (by kernel_rfl) (by kernel_rfl) (by kernel_rfl) (fun _ _ _ h => h) (Or.inl ⟨by kernel_rfl, ?_⟩) (by assumption) ?_
  rotate_left
  · (intro w hSw; (try dsimp only at hSw); go_simp; try (with_reducible rfl))
  try simp only [Act.put, List.setIfInBounds_toArray, List.set_cons_zero, List.set_cons_succ]
  refine wpAnyH_take (i := 8) (oi := ⟨some 26, _, _, _, _, _⟩) rfl (by kernel_rfl) (by kernel_rfl) (by kernel_rfl) (fun _ _ _ h => h) (yields_opt (by kernel_rfl) rfl (by rfl) (fun w h => h.1)) (by assumption) ?_
  try simp only [Act.put, List.setIfInBounds_toArray, List.set_cons_zero, List.set_cons_succ]
  refine wpAnyH_take (i := 10) (oi := ⟨some 28, _, _, _, _, _⟩) rfl (by kernel_rfl) (by kernel_rfl) (by kernel_rfl) (fun _ _ _ h => h) (yields_opt (by kernel_rfl) rfl (by rfl) (fun w h => h.1)) (by assumption) ?_
  try simp only [Act.put, List.setIfInBounds_toArray, List.set_cons_zero, List.set_cons_succ]
  refine wpAnyH_ready (rs := [9]) (by kernel_rfl) (by simp) ?_
  refine AllReadyH.cons (o := ⟨some 27, _, _, _, _, _⟩) rfl (fun K hK => ?_) AllReadyH.nil
  go_simp
  (go_at_call 40; refine (optSize_i o A _ cp _ O5.out.rd (by omega) HWF.out).mono ?_; rw [HL0.out]; rintro e w6 ⟨rfl, hb6⟩)
  try go_wp2_with fail
  refine hK.out _ _ ?_ (fun hHeld => ?_)
  · exact ⟨X5.out.below hb6, B5.out.trans (hb6.mono B5.out.size)⟩
  clear hK K
  try simp only [Act.put, List.setIfInBounds_toArray, List.set_cons_zero, List.set_cons_succ]
  have O6 := Lib.hid (O5.out.below hb6)
  have X6 := Lib.hid (X5.out.below hb6)
  have B6 := Lib.hid (B5.out.trans (hb6.mono B5.out.size))
  clear hb6
  refine wpAnyH_ready (rs := [11]) (by kernel_rfl) (by simp) ?_
  refine AllReadyH.cons (o := ⟨some 29, _, _, _, _, _⟩) rfl (fun K hK => ?_) AllReadyH.nil
  go_simp
  (go_at_call 39; refine (optSize_s o A _ cp _ O6.out.rd HWF.out).mono ?_; rw [HL0.out]; rintro e w7 ⟨rfl, hb7⟩)
  try go_wp2_with fail
  refine hK.out _ _ ?_ (fun hHeld => ?_)
  · exact ⟨X6.out.below hb7, B6.out.trans (hb7.mono B6.out.size)⟩
  clear hK K
  try simp only [Act.put, List.setIfInBounds_toArray, List.set_cons_zero, List.set_cons_succ]
  have B7 := Lib.hid (B6.out.trans (hb7.mono B6.out.size))
  have L7 := Lib.hid (L4.out.trans (B7.out.mono L4.out.size))
  clear hb7
  refine wpAnyH_take (i := 12) (oi := ⟨some 30, _, _, _, _, _⟩) (v := ?_) rfl (by kernel_rfl) (by kernel_rfl) (by kernel_rfl) (fun _ _ _ h => h) (Or.inl ⟨by kernel_rfl, ?_⟩) (by assumption) ?_
  rotate_left
  · (intro w hSw; (try dsimp only at hSw); go_simp; try (with_reducible rfl))
  try simp only [Act.put, List.setIfInBounds_toArray, List.set_cons_zero, List.set_cons_succ]
  refine wpAnyH_take (i := 13) (oi := ⟨some 31, _, _, _, _, _⟩) (v := ?_) rfl (by kernel_rfl) (by kernel_rfl) (by kernel_rfl) (fun _ _ _ h => h) (Or.inl ⟨by kernel_rfl, ?_⟩) (by assumption) ?_
  rotate_left
  · (intro w hSw; (try dsimp only at hSw); go_simp; try (with_reducible rfl))
  try simp only [Act.put, List.setIfInBounds_toArray, List.set_cons_zero, List.set_cons_succ]
  refine wpAnyH_take (i := 14) (oi := ⟨some 2, _, _, _, _, _⟩) (v := ?_) rfl (by kernel_rfl) (by kernel_rfl) (by kernel_rfl) (fun _ _ _ h => h) (Or.inl ⟨by kernel_rfl, ?_⟩) (by assumption) ?_
  rotate_left
  · (intro w hSw; (try dsimp only at hSw); go_simp; try (with_reducible rfl))
  try simp only [Act.put, List.setIfInBounds_toArray, List.set_cons_zero, List.set_cons_succ]
  refine wpAnyH_done (by kernel_rfl) ?_ _
  repeat clear hHeld
  go_wp2
  go_ret
  exact ⟨rfl, L7.out⟩
set_option maxRecDepth 100000 in
set_option maxHeartbeats 3200000 in
theorem options_yes (o : OD) (v : Value) (n : Nat) (xs : List Int) (w : World) (hv : Rd w 1 v n (xs.map (Value.int .u8))) (hz : ∀ x ∈ xs, (Lit.int .u8 x).wf = true) (hn : n ≤ 1048576) (hR : o = (anyX xs (newS xs n)).1) (hok : optOk o = true) :
    Calls Try.prog 11 #[v] w fun e w' => e = .returned (.bool true) ∧ Below w.heap.size w w' := by
  have HV := Lib.hid hv
  have HZ := Lib.hid (u8_range hz)
  have HR := Lib.hid hR
  have HOK := Lib.hid hok
  have HSM := Lib.hid (sameOD_yes o)
  obtain ⟨S, hS⟩ : ∃ S, S = str (optL o) := ⟨_, rfl⟩
  obtain ⟨X, hX⟩ : ∃ X, X = S ++ str [98, 101, 104, 105, 110, 100] := ⟨_, rfl⟩
  obtain ⟨Y, hY⟩ : ∃ Y, Y = str [120, 120] ++ S := ⟨_, rfl⟩
  have h42 := optL_len o
  have hsz : S.size = (optL o).length := by rw [hS, str_size]
  have hX' : X = str ([] ++ (optL o ++ [98, 101, 104, 105, 110, 100])) := by rw [hX, hS, str_add2, List.nil_append]
  have hY' : Y = str ([120, 120] ++ (optL o ++ [])) := by rw [hY, hS, str_add2, List.append_nil]
  have hpos := (readO_back hok [] []).2.2
  have rX := readO_back hok [] [98, 101, 104, 105, 110, 100]
  have rY := readO_back hok [120, 120] []
  rw [← hX'] at rX
  rw [← hY'] at rY
  have hXs : X.size ≤ 9223372036854775807 := by rw [hX', str_size]; simp; omega
  have hYs : Y.size ≤ 9223372036854775807 := by rw [hY', str_size]; simp; omega
  obtain ⟨m, hm⟩ : ∃ m, m = S.size := ⟨_, rfl⟩
  have hm0 : 0 < m := by omega
  have hm42 : m ≤ 42 := by omega
  have HRX : Hid (readO X 0 = some o ∧ (0 : Int) + 2 + numAtN X (0 + 1) 1 = (m : Int)) := Lib.hid (by
    have h : readO X 0 = some o ∧ (0 : Int) + 2 + numAtN X (0 + 1) 1 = ((0 + (optL o).length : Nat) : Int) ∧ 2 ≤ (optL o).length := rX
    exact ⟨h.1, by rw [h.2.1, hm, hsz, Nat.zero_add]⟩)
  have HRY : Hid (readO Y 2 = some o ∧ (2 : Int) + 2 + numAtN Y (2 + 1) 1 = (m : Int) + 2) := Lib.hid (by
    have h : readO Y 2 = some o ∧ (2 : Int) + 2 + numAtN Y (2 + 1) 1 = ((2 + (optL o).length : Nat) : Int) ∧ 2 ≤ (optL o).length := rY
    exact ⟨h.1, by rw [h.2.1, hm, hsz]; omega⟩)
  have HS := Lib.hid hS
  have HX := Lib.hid hX
  have HY := Lib.hid hY
  have HM := Lib.hid hm
  have HXs := Lib.hid hXs
  have HYs := Lib.hid hYs
  have HLN : Hid ((optL o).length = m) := Lib.hid (by omega)
  clear hv hz hR hok hS hX hY h42 hpos hsz hX' hY' rX rY hXs hYs hm
  go_enter Try.func11, Try.ntmps11
  have HB : Hid (decide (1048576 < (n : Int)) = false) := Lib.hid (by simp; omega)
  go_wp2_with fail
  refine (big_l v n _ _ HV.out).mono ?_
  rw [HB.out]
  rintro e w0 ⟨rfl, rfl⟩
  go_wp2_with fail
  refine (drawOptText_u v n xs _ HV.out HZ.out hn).mono ?_
  rw [← HR.out]
  rintro e w1 ⟨iv, rfl, ho, hb, hwf, hid⟩
  obtain ⟨A, cp, rfl⟩ := ho.shape
  have O1 := Lib.hid ho
  have L1 := Lib.hid hb
  have HWF := Lib.hid hwf
  clear ho hb hwf
  go_upto_region 4 with ((refine wpl_store_opt rfl (by rfl) (by rfl) (by rfl) ?_))
  obtain ⟨W, hW⟩ : ∃ W, W = w1.alloc (.cells (voC o (.slice A o.ids.length cp)).toArray 27) := ⟨_, rfl⟩
  rw [← hW]
  obtain ⟨b, hb⟩ : ∃ b, b = w1.heap.size := ⟨_, rfl⟩
  have X2 := Lib.hid (Bx.new w1 (voC o (.slice A o.ids.length cp)).toArray 27)
  have E2 := Lib.hid ((Below.refl w1.heap.size w1).alloc (Nat.le_refl _) (.cells (voC o (.slice A o.ids.length cp)).toArray 27))
  rw [← hW] at X2 E2
  rw [← hb] at X2 ⊢
  have O2 := Lib.hid (O1.out.below E2.out)
  have L2 := Lib.hid (L1.out.trans (E2.out.mono L1.out.size))
  clear hW hb O1 L1 E2
  go_wp2_with (refine wpl_opt (o := o) rfl (by rfl) (by rfl) X2.out ?_)
  refine (optText_i o A _ cp _ O2.out.rd (by omega) HWF.out).mono ?_
  rw [← HS.out]
  rintro e w3 ⟨rfl, hb⟩
  have O3 := Lib.hid (O2.out.below hb)
  have X3 := Lib.hid (X2.out.below hb)
  have L3 := Lib.hid (L2.out.trans (hb.mono L2.out.size))
  clear hb O2 X2 L2
  go_wp2_with (refine wpl_opt (o := o) rfl (by rfl) (by rfl) X3.out ?_)
  refine (optOk_s' o A _ cp _ O3.out.rd HWF.out).mono ?_
  rw [HOK.out]
  rintro e w4 ⟨rfl, hb⟩
  have O4 := Lib.hid (O3.out.below hb)
  have X4 := Lib.hid (X3.out.below hb)
  have L4 := Lib.hid (L3.out.trans (hb.mono L3.out.size))
  clear hb O3 X3 L3
  have hs1 : ¬ (9223372036854775807 < S.size + (ByteArray.mk #[98, 101, 104, 105, 110, 100]).size) := by rw [← HM.out]; show ¬ (9223372036854775807 < m + 6); omega
  have hs2 : ¬ (9223372036854775807 < (ByteArray.mk #[120, 120]).size + S.size) := by rw [← HM.out]; show ¬ (9223372036854775807 < 2 + m); omega
  have hx1 : S ++ ByteArray.mk #[98, 101, 104, 105, 110, 100] = X := HX.out.symm
  have hy1 : ByteArray.mk #[120, 120] ++ S = Y := HY.out.symm
  clear hs2 hy1
  go_wp2_with fail
  refine (readOpt_i X 0 _ HXs.out (by unfold i64R; omega)).mono ?_
  rw [HRX.out.1, HRX.out.2]
  rintro e w5 ⟨iv5, rfl, ho5, _, hb5⟩
  obtain ⟨A5, cp5, rfl⟩ := ho5.shape
  have O5 := Lib.hid (O4.out.below hb5)
  have X5 := Lib.hid (X4.out.below hb5)
  have P5 := Lib.hid ho5
  have L5 := Lib.hid (L4.out.trans (hb5.mono L4.out.size))
  clear ho5 hb5 O4 X4 L4 hs1 hx1
  go_upto_region 8 with ((refine wpl_store_opt rfl (by rfl) (by rfl) (by rfl) ?_))
  obtain ⟨W6, hW6⟩ : ∃ W, W = w5.alloc (.cells (voC o (.slice A5 o.ids.length cp5)).toArray 27) := ⟨_, rfl⟩
  rw [← hW6]
  obtain ⟨b6, hb6⟩ : ∃ b, b = w5.heap.size := ⟨_, rfl⟩
  have Y6 := Lib.hid (Bx.new w5 (voC o (.slice A5 o.ids.length cp5)).toArray 27)
  have E6 := Lib.hid ((Below.refl w5.heap.size w5).alloc (Nat.le_refl _) (.cells (voC o (.slice A5 o.ids.length cp5)).toArray 27))
  rw [← hW6] at Y6 E6
  rw [← hb6] at Y6 ⊢
  have O6 := Lib.hid (O5.out.below E6.out)
  have P6 := Lib.hid (P5.out.below E6.out)
  have X6 := Lib.hid (X5.out.below E6.out)
  have L6 := Lib.hid (L5.out.trans (E6.out.mono L5.out.size))
  clear hW6 hb6 O5 P5 X5 L5 E6
  have hs2 : ¬ (9223372036854775807 < (ByteArray.mk #[120, 120]).size + S.size) := by rw [← HM.out]; show ¬ (9223372036854775807 < 2 + m); omega
  have hy1 : ByteArray.mk #[120, 120] ++ S = Y := HY.out.symm
  go_wp2_with fail
  refine (readOpt_i Y 2 _ HYs.out (by unfold i64R; omega)).mono ?_
  rw [HRY.out.1, HRY.out.2]
  rintro e w7 ⟨iv7, rfl, ho7, _, hb7⟩
  obtain ⟨A7, cp7, rfl⟩ := ho7.shape
  have O7 := Lib.hid (O6.out.below hb7)
  have P7 := Lib.hid (P6.out.below hb7)
  have X7 := Lib.hid (X6.out.below hb7)
  have Y7 := Lib.hid (Y6.out.below hb7)
  have Q7 := Lib.hid ho7
  have L7 := Lib.hid (L6.out.trans (hb7.mono L6.out.size))
  clear ho7 hb7 O6 P6 X6 Y6 L6 hs2 hy1
  go_upto_region 9 with ((refine wpl_store_opt rfl (by rfl) (by rfl) (by rfl) ?_))
  obtain ⟨W8, hW8⟩ : ∃ W, W = w7.alloc (.cells (voC o (.slice A7 o.ids.length cp7)).toArray 27) := ⟨_, rfl⟩
  rw [← hW8]
  obtain ⟨b8, hb8⟩ : ∃ b, b = w7.heap.size := ⟨_, rfl⟩
  have Z8 := Lib.hid (Bx.new w7 (voC o (.slice A7 o.ids.length cp7)).toArray 27)
  have E8 := Lib.hid ((Below.refl w7.heap.size w7).alloc (Nat.le_refl _) (.cells (voC o (.slice A7 o.ids.length cp7)).toArray 27))
  rw [← hW8] at Z8 E8
  rw [← hb8] at Z8 ⊢
  have O8 := Lib.hid (O7.out.below E8.out)
  have P8 := Lib.hid (P7.out.below E8.out)
  have Q8 := Lib.hid (Q7.out.below E8.out)
  have X8 := Lib.hid (X7.out.below E8.out)
  have Y8 := Lib.hid (Y7.out.below E8.out)
  have L8 := Lib.hid (L7.out.trans (E8.out.mono L7.out.size))
  clear hW8 hb8 O7 P7 Q7 X7 Y7 L7 E8
  go_wp2_with (first | (refine wpl_opt (o := o) rfl (by rfl) (by rfl) X8.out ?_) | (refine wpl_opt (o := o) rfl (by rfl) (by rfl) Y8.out ?_) | (refine wpl_opt (o := o) rfl (by rfl) (by rfl) Z8.out ?_))
  refine (optOk_i o A _ cp _ O8.out.rd (by omega) HWF.out).mono ?_
  rw [HOK.out]
  rintro e w9 ⟨rfl, hb9⟩
  have O9 := Lib.hid (O8.out.below hb9)
  have P9 := Lib.hid (P8.out.below hb9)
  have Q9 := Lib.hid (Q8.out.below hb9)
  have X9 := Lib.hid (X8.out.below hb9)
  have Y9 := Lib.hid (Y8.out.below hb9)
  have Z9 := Lib.hid (Z8.out.below hb9)
  have L9 := Lib.hid (L8.out.trans (hb9.mono L8.out.size))
  clear hb9 O8 P8 Q8 X8 Y8 Z8 L8
  have hsm : S.size = m := HM.out.symm
  go_wp2_with (first | (refine wpl_optGd (o := o) (by simp [Region.wanted, yielded, Act.put]) (by rfl) (by rfl) X9.out ?_) | (refine wpl_optGd (o := o) (by simp [Region.wanted, yielded, Act.put]) (by rfl) (by rfl) Y9.out ?_) | (refine wpl_optGd (o := o) (by simp [Region.wanted, yielded, Act.put]) (by rfl) (by rfl) Z9.out ?_))
  refine (sameOpt_i o o _ _ _ _ _ P9.out.rd O9.out.rd).mono ?_
  rw [HSM.out]
  rintro e w10 ⟨rfl, hb10⟩
  have O10 := Lib.hid (O9.out.below hb10)
  have P10 := Lib.hid (P9.out.below hb10)
  have Q10 := Lib.hid (Q9.out.below hb10)
  have X10 := Lib.hid (X9.out.below hb10)
  have Y10 := Lib.hid (Y9.out.below hb10)
  have Z10 := Lib.hid (Z9.out.below hb10)
  have L10 := Lib.hid (L9.out.trans (hb10.mono L9.out.size))
  clear hb10 O9 P9 Q9 X9 Y9 Z9 L9
  go_wp2_with (first | (refine wpl_optGd (o := o) (by simp [Region.wanted, yielded, Act.put]) (by rfl) (by rfl) X10.out ?_) | (refine wpl_optGd (o := o) (by simp [Region.wanted, yielded, Act.put]) (by rfl) (by rfl) Y10.out ?_) | (refine wpl_optGd (o := o) (by simp [Region.wanted, yielded, Act.put]) (by rfl) (by rfl) Z10.out ?_))
  refine (sameOpt_s o o _ _ _ _ _ Q10.out.rd O10.out.rd).mono ?_
  rw [HSM.out]
  rintro e w11 ⟨rfl, hb11⟩
  have O11 := Lib.hid (O10.out.below hb11)
  have P11 := Lib.hid (P10.out.below hb11)
  have Q11 := Lib.hid (Q10.out.below hb11)
  have X11 := Lib.hid (X10.out.below hb11)
  have Y11 := Lib.hid (Y10.out.below hb11)
  have Z11 := Lib.hid (Z10.out.below hb11)
  have L11 := Lib.hid (L10.out.trans (hb11.mono L10.out.size))
  clear hb11 O10 P10 Q10 X10 Y10 Z10 L10
  go_wp2_with (first | (refine wpl_optGd (o := o) (by simp [Region.wanted, yielded, Act.put]) (by rfl) (by rfl) X11.out ?_) | (refine wpl_optGd (o := o) (by simp [Region.wanted, yielded, Act.put]) (by rfl) (by rfl) Y11.out ?_) | (refine wpl_optGd (o := o) (by simp [Region.wanted, yielded, Act.put]) (by rfl) (by rfl) Z11.out ?_))
  refine (optSize_i o A _ cp _ O11.out.rd (by omega) HWF.out).mono ?_
  rw [HLN.out]
  rintro e w12 ⟨rfl, hb12⟩
  have L12 := Lib.hid (L11.out.trans (hb12.mono L11.out.size))
  clear hb12
  go_wp2
  go_ret
  exact ⟨rfl, L12.out⟩
theorem law_FnOptions (v : Value) (n : Nat) (xs : List Int) (w : World) (hv : Rd w 1 v n (xs.map (Value.int .u8))) (hz : ∀ x ∈ xs, (Lit.int .u8 x).wf = true) :
    Calls Try.prog 11 #[v] w fun e w' => e = .returned (.bool true) ∧ Below w.heap.size w w' := by
  by_cases hb : 1048576 < n
  · have HV := Lib.hid hv
    have HB : Hid (decide (1048576 < (n : Int)) = true) := Lib.hid (by simp; omega)
    clear hv hz hb
    go_enter Try.func11, Try.ntmps11
    go_wp2_with fail
    refine (big_l v n _ _ HV.out).mono ?_
    rw [HB.out]
    rintro e w0 ⟨rfl, rfl⟩
    go_wp2
    go_ret
    exact ⟨rfl, Below.refl _ _⟩
  · cases hok : optOk (anyX xs (newS xs n)).1
    · exact options_no _ v n xs w hv hz (by omega) rfl hok
    · exact options_yes _ v n xs w hv hz (by omega) rfl hok
end Go.Proofs.Ytkgbkgonlopciaa

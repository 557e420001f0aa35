/- The walk of the law of SameOpt. -/
import Derived.Test.YtkgbkgonlopciaaProg
import Derived.Test.YtkgbkgonlopciaaK
import Derived.Test.YtkgbkgonlopciaaK2
import Derived.Test.YtkgbkgonlopciaaK4
import Derived.Test.YtkgbkgonlopciaaM6
import Derived.Test.YtkgbkgonlopciaaF4
import Derived.Test.YtkgbkgonlopciaaA12
import Derived.Test.YtkgbkgonlopciaaK6
import Derived.Deep.Cut
namespace Go.Proofs.Ytkgbkgonlopciaa
open Go.RowKit
set_option linter.unusedVariables false
set_option linter.unusedSimpArgs false
set_option maxRecDepth 100000 in
set_option maxHeartbeats 1600000 in
theorem law_SameOpt (o1 : OD) (i1 : Value) (n1 : Nat) (o2 : OD) (i2 : Value) (n2 : Nat) (w : World) (h1 : Rd w 1 i1 n1 (o1.ids.map vn)) (z1 : o1.wf) (h2 : Rd w 1 i2 n2 (o2.ids.map vn)) (z2 : o2.wf) :
    Calls Try.prog 3 #[vo o1 i1, vo o2 i2] w fun e w' => e = .returned (.bool true) ∧ Below w.heap.size w w' := by
  have hk1 := z1.2.1
  have hk2 := z2.2.1
  unfold maxLen at hk1 hk2
  have e1 := Lib.hid (rd_ids h1)
  have e2 := Lib.hid (rd_ids h2)
  have H1 := Lib.hid h1
  have H2 := Lib.hid h2
  clear h1 h2 z1 z2
  obtain ⟨A1, cp1, rfl, _⟩ := H1.out.shape
  obtain ⟨A2, cp2, rfl, _⟩ := H2.out.shape
  go_enter Try.func3, Try.ntmps3
  go_upto_region 2 with (fail)
  obtain ⟨W, hW⟩ : ∃ W, W = (w.alloc (.cells (voC o1 (.slice A1 n1 cp1)).toArray 24)).alloc (.cells (voC o2 (.slice A2 n2 cp2)).toArray 24) := ⟨_, rfl⟩
  change Code.wp _ _ _ _ ((w.alloc (.cells (voC o1 (.slice A1 n1 cp1)).toArray 24)).alloc (.cells (voC o2 (.slice A2 n2 cp2)).toArray 24))
  rw [← hW]
  have L0 := Lib.hid (((Below.refl w.heap.size w).alloc (Nat.le_refl _) (.cells (voC o1 (.slice A1 n1 cp1)).toArray 24)).alloc (by simp) (.cells (voC o2 (.slice A2 n2 cp2)).toArray 24))
  have X1 := Lib.hid ((Bx.new w (voC o1 (.slice A1 n1 cp1)).toArray 24).alloc (.cells (voC o2 (.slice A2 n2 cp2)).toArray 24))
  have X2 := Lib.hid (Bx.new (w.alloc (.cells (voC o1 (.slice A1 n1 cp1)).toArray 24)) (voC o2 (.slice A2 n2 cp2)).toArray 24)
  rw [← hW] at L0 X1 X2
  rw [World.size_alloc] at X2
  clear hW
  have R1 := Lib.hid (H1.out.below L0.out)
  have R2 := Lib.hid (H2.out.below L0.out)
  by_cases c1 : szO o1 ≤ 1048576
  case neg =>
    go_wp2_with (refine wpl_optL rfl (by rfl) (by rfl) X1.out ?_)
    refine (szOpt_l_big o1 _ n1 1048576 _ R1.out (by omega) (by omega) (by omega) (by omega)).mono ?_
    rintro e w1 ⟨rfl, hb⟩
    have HB := Lib.hid hb
    clear hb
    go_wp2
    go_ret
    exact ⟨rfl, L0.out.trans (HB.out.mono L0.out.size)⟩
  obtain ⟨q, hq⟩ : ∃ q, q = 1048576 - szO o1 := ⟨_, rfl⟩
  have HQ := Lib.hid hq
  have hqb : q ≤ 1048576 := by omega
  clear hq
  have hn1 : n1 ≤ 1048576 := by have := e1.out; unfold szO at c1; omega
  have C1 := Lib.hid c1
  clear c1
  go_wp2_with (refine wpl_optL rfl (by rfl) (by rfl) X1.out ?_)
  refine (szOpt_l o1 _ n1 1048576 _ R1.out (by omega) C1.out).mono ?_
  rintro e w1 ⟨rfl, hb⟩
  rw [← HQ.out]
  have L1 := Lib.hid (L0.out.trans (hb.mono L0.out.size))
  have X1a := Lib.hid (X1.out.below hb)
  have X2a := Lib.hid (X2.out.below hb)
  clear hb
  by_cases c2 : szO o2 ≤ q
  case neg =>
    go_wp2_with (refine wpl_optL rfl (by rfl) (by rfl) X2a.out ?_)
    refine (szOpt_l_big o2 _ n2 q _ (H2.out.below L1.out) (by omega) (by omega) (by omega) (by omega)).mono ?_
    rintro e w2 ⟨rfl, hb⟩
    have HB2 := Lib.hid (L1.out.trans (hb.mono L1.out.size))
    clear hb
    go_wp2
    go_ret
    exact ⟨rfl, HB2.out⟩
  obtain ⟨q2, hq2⟩ : ∃ q2, q2 = q - szO o2 := ⟨_, rfl⟩
  have HQ2 := Lib.hid hq2
  have hqb2 : q2 ≤ 1048576 := by omega
  clear hq2
  have hn2 : n2 ≤ 1048576 := by have := e2.out; unfold szO at c2; omega
  have C2 := Lib.hid c2
  clear c2 hk1 hk2
  obtain ⟨r, hr⟩ : ∃ r, r = sameOD o1 o2 := ⟨_, rfl⟩
  have HR := Lib.hid hr
  clear hr
  go_wp2_with (refine wpl_optL rfl (by rfl) (by rfl) X2a.out ?_)
  refine (szOpt_l o2 _ n2 q _ (H2.out.below L1.out) (by omega) C2.out).mono ?_
  rintro e w2 ⟨rfl, hb⟩
  rw [← HQ2.out]
  have L2 := Lib.hid (L1.out.trans (hb.mono L1.out.size))
  have X1b := Lib.hid (X1a.out.below hb)
  have X2b := Lib.hid (X2a.out.below hb)
  clear hb X1a X2a
  go_upto_region 8 with (fail)
  have S0 := Lib.hid (And.intro (X1b.out.drew) (And.intro X2b.out.drew (Below.refl w2.heap.size w2).drew))
  refine wp_region_held_drew (S := fun w' => Bx w' w.heap.size (voC o1 (.slice A1 n1 cp1)) ∧ Bx w' (w.heap.size + 1) (voC o2 (.slice A2 n2 cp2)) ∧ Below w2.heap.size w2 w') (by kernel_rfl) S0.out (fun hHeld => ?_)
  refine wpAnyH_take (i := 0) rfl (by kernel_rfl) (by kernel_rfl) (by kernel_rfl) (fun _ _ _ h => h) (yields_optL (by kernel_rfl) rfl (by rfl) (fun w h => h.1)) (by assumption) ?_
  try simp only [Act.put, List.setIfInBounds_toArray, List.set_cons_zero, List.set_cons_succ]
  refine wpAnyH_take (i := 2) rfl (by kernel_rfl) (by kernel_rfl) (by kernel_rfl) (fun _ _ _ h => h) (yields_optL (by kernel_rfl) rfl (by rfl) (fun w h => h.2.1)) (by assumption) ?_
  try simp only [Act.put, List.setIfInBounds_toArray, List.set_cons_zero, List.set_cons_succ]
  refine wpAnyH_ready (rs := [1]) (by kernel_rfl) (by simp) ?_
  refine AllReadyH.cons rfl (fun K hK => ?_) AllReadyH.nil
  go_simp
  (go_at_call 18; refine (toOpt_l o1 _ n1 _ (H1.out.below L2.out.drew) (by omega)).mono ?_; rintro e w3 ⟨t1, rfl, ho3, hb3⟩)
  try go_wp2_with fail
  refine hK.out _ _ ?_ (fun hHeld => ?_)
  · exact ⟨X1b.out.drew.below hb3, X2b.out.drew.below hb3, (Below.refl w2.heap.size w2).drew.trans hb3⟩
  clear hK K
  try simp only [Act.put, List.setIfInBounds_toArray, List.set_cons_zero, List.set_cons_succ]
  have L3 := Lib.hid (L2.out.drew.trans (hb3.mono L2.out.drew.size))
  have OA := Lib.hid ho3
  have X1c := Lib.hid (X1b.out.drew.below hb3)
  have X2c := Lib.hid (X2b.out.drew.below hb3)
  have B3 := Lib.hid ((Below.refl w2.heap.size w2).drew.trans hb3)
  clear ho3 hb3
  refine wpAnyH_ready (rs := [3]) (by kernel_rfl) (by simp) ?_
  refine AllReadyH.cons rfl (fun K hK => ?_) AllReadyH.nil
  go_simp
  (go_at_call 18; refine (toOpt_l o2 _ n2 _ (H2.out.below L3.out) (by omega)).mono ?_; rintro e w4 ⟨t2, rfl, ho4, hb4⟩)
  try go_wp2_with fail
  refine hK.out _ _ ?_ (fun hHeld => ?_)
  · exact ⟨X1c.out.below hb4, X2c.out.below hb4, B3.out.trans (hb4.mono B3.out.size)⟩
  clear hK K
  try simp only [Act.put, List.setIfInBounds_toArray, List.set_cons_zero, List.set_cons_succ]
  have L4 := Lib.hid (L3.out.trans (hb4.mono L3.out.size))
  have OA4 := Lib.hid (OA.out.below hb4)
  have OB4 := Lib.hid ho4
  have X1d := Lib.hid (X1c.out.below hb4)
  have X2d := Lib.hid (X2c.out.below hb4)
  have B4 := Lib.hid (B3.out.trans (hb4.mono B3.out.size))
  clear ho4 hb4
  refine wpAnyH_ready (rs := [4]) (by kernel_rfl) (by simp) ?_
  refine AllReadyH.cons rfl (fun K hK => ?_) AllReadyH.nil
  go_simp
  (go_at_call 17; refine (sameOpt_s o1 o2 t1 t2 _ _ _ OA4.out.rd OB4.out.rd).mono ?_; rw [← HR.out]; rintro e w5 ⟨rfl, hb5⟩)
  try go_wp2_with fail
  refine hK.out _ _ ?_ (fun hHeld => ?_)
  · exact ⟨X1d.out.below hb5, X2d.out.below hb5, B4.out.trans (hb5.mono B4.out.size)⟩
  clear hK K
  try simp only [Act.put, List.setIfInBounds_toArray, List.set_cons_zero, List.set_cons_succ]
  have L5 := Lib.hid (L4.out.trans (hb5.mono L4.out.size))
  have X1e := Lib.hid (X1d.out.below hb5)
  have X2e := Lib.hid (X2d.out.below hb5)
  clear hb5
  refine wpAnyH_take (i := 5) (v := ?_) rfl (by kernel_rfl) (by kernel_rfl) (by kernel_rfl) (fun _ _ _ h => h) (Or.inl ⟨by rfl, ?_⟩) (by assumption) ?_
  rotate_left
  · (intro w hSw; (try dsimp only at hSw); go_simp; try (with_reducible rfl))
  try simp only [Act.put, List.setIfInBounds_toArray, List.set_cons_zero, List.set_cons_succ]
  refine wpAnyH_done (by kernel_rfl) ?_ _
  repeat clear hHeld
  go_wp2_with (refine wpl_optL rfl (by rfl) (by rfl) X1e.out ?_)
  refine (toOpt_l o1 _ n1 _ (H1.out.below L5.out) (by omega)).mono ?_
  rintro e w6 ⟨x1, rfl, ho6, hb6⟩
  obtain ⟨A6, c6, rfl⟩ := ho6.shape
  have OX6 := Lib.hid ho6
  have L6 := Lib.hid (L5.out.trans (hb6.mono L5.out.size))
  have X1f := Lib.hid (X1e.out.below hb6)
  have X2f := Lib.hid (X2e.out.below hb6)
  clear ho6 hb6
  go_upto_region 10 with ((refine wpl_store_opt rfl (by rfl) (by rfl) (by rfl) ?_))
  obtain ⟨W6, hW6⟩ : ∃ W, W = w6.alloc (.cells (voC o1 (.slice A6 o1.ids.length c6)).toArray 27) := ⟨_, rfl⟩
  rw [← hW6]
  have BX := Lib.hid (Bx.new w6 (voC o1 (.slice A6 o1.ids.length c6)).toArray 27)
  have B6 := Lib.hid ((Below.refl w6.heap.size w6).alloc (Nat.le_refl _) (.cells (voC o1 (.slice A6 o1.ids.length c6)).toArray 27))
  rw [← hW6] at BX B6
  clear hW6
  have OX := Lib.hid (OX6.out.below B6.out)
  have L7 := Lib.hid (L6.out.trans (B6.out.mono L6.out.size))
  have X1g := Lib.hid (X1f.out.below B6.out)
  have X2g := Lib.hid (X2f.out.below B6.out)
  clear OX6 X1f X2f B6
  go_wp2_with (refine wpl_optL rfl (by rfl) (by rfl) X2g.out ?_)
  refine (toOpt_l o2 _ n2 _ (H2.out.below L7.out) (by omega)).mono ?_
  rintro e w8 ⟨x2, rfl, ho8, hb8⟩
  obtain ⟨A8, c8, rfl⟩ := ho8.shape
  have OY8 := Lib.hid ho8
  have OX8 := Lib.hid (OX.out.below hb8)
  have BX8 := Lib.hid (BX.out.below hb8)
  have L8 := Lib.hid (L7.out.trans (hb8.mono L7.out.size))
  have X1h := Lib.hid (X1g.out.below hb8)
  have X2h := Lib.hid (X2g.out.below hb8)
  clear ho8 hb8 OX BX X1g X2g
  go_upto_region 11 with ((refine wpl_store_opt rfl (by rfl) (by rfl) (by rfl) ?_))
  obtain ⟨W8, hW8⟩ : ∃ W, W = w8.alloc (.cells (voC o2 (.slice A8 o2.ids.length c8)).toArray 27) := ⟨_, rfl⟩
  rw [← hW8]
  have BY := Lib.hid (Bx.new w8 (voC o2 (.slice A8 o2.ids.length c8)).toArray 27)
  have B8 := Lib.hid ((Below.refl w8.heap.size w8).alloc (Nat.le_refl _) (.cells (voC o2 (.slice A8 o2.ids.length c8)).toArray 27))
  rw [← hW8] at BY B8
  clear hW8
  have OY := Lib.hid (OY8.out.below B8.out)
  have OX := Lib.hid (OX8.out.below B8.out)
  have BX := Lib.hid (BX8.out.below B8.out)
  have L9 := Lib.hid (L8.out.trans (B8.out.mono L8.out.size))
  have X1i := Lib.hid (X1h.out.below B8.out)
  have X2i := Lib.hid (X2h.out.below B8.out)
  clear OX8 OY8 BX8 X1h X2h B8
  go_wp2_with (first | (refine wpl_opt rfl (by rfl) (by rfl) BX.out ?_) | (refine wpl_opt rfl (by rfl) (by rfl) BY.out ?_))
  refine (sameOpt_i o1 o2 _ _ _ _ _ OX.out.rd OY.out.rd).mono ?_
  rw [← HR.out]
  rintro e w10 ⟨rfl, hb10⟩
  have OX10 := Lib.hid (OX.out.below hb10)
  have OY10 := Lib.hid (OY.out.below hb10)
  have BX10 := Lib.hid (BX.out.below hb10)
  have BY10 := Lib.hid (BY.out.below hb10)
  have X1j := Lib.hid (X1i.out.below hb10)
  have X2j := Lib.hid (X2i.out.below hb10)
  have L10 := Lib.hid (L9.out.trans (hb10.mono L9.out.size))
  clear hb10 OX OY BX BY X1i X2i
  go_upto_region 14 with (fail)
  refine wp_region_held_drew (S := fun w' => Bx w' w6.heap.size (voC o1 (.slice A6 o1.ids.length c6)) ∧ Bx w' w.heap.size (voC o1 (.slice A1 n1 cp1)) ∧ Below w10.heap.size w10 w') (by kernel_rfl) ⟨BX10.out.drew, X1j.out.drew, (Below.refl _ w10).drew⟩ (fun hHeld => ?_)
  refine wpAnyH_take (i := 0) rfl (by kernel_rfl) (by kernel_rfl) (by kernel_rfl) (fun _ _ _ h => h) (yields_opt (by kernel_rfl) rfl (by rfl) (fun w h => h.1)) (by assumption) ?_
  try simp only [Act.put, List.setIfInBounds_toArray, List.set_cons_zero, List.set_cons_succ]
  refine wpAnyH_take (i := 1) rfl (by kernel_rfl) (by kernel_rfl) (by kernel_rfl) (fun _ _ _ h => h) (yields_optL (by kernel_rfl) rfl (by rfl) (fun w h => h.2.1)) (by assumption) ?_
  try simp only [Act.put, List.setIfInBounds_toArray, List.set_cons_zero, List.set_cons_succ]
  refine wpAnyH_ready (rs := [2]) (by kernel_rfl) (by simp) ?_
  refine AllReadyH.cons rfl (fun K hK => ?_) AllReadyH.nil
  go_simp
  (go_at_call 18; refine (toOpt_l o1 _ n1 _ (H1.out.below L10.out.drew) (by omega)).mono ?_; rintro e w11 ⟨y1, rfl, ho11, hb11⟩)
  try go_wp2_with fail
  refine hK.out _ _ ?_ (fun hHeld => ?_)
  · exact ⟨BX10.out.drew.below hb11, X1j.out.drew.below hb11, (Below.refl w10.heap.size w10).drew.trans hb11⟩
  clear hK K
  try simp only [Act.put, List.setIfInBounds_toArray, List.set_cons_zero, List.set_cons_succ]
  have OZ11 := Lib.hid ho11
  have OX11 := Lib.hid (OX10.out.drew.below hb11)
  have OY11 := Lib.hid (OY10.out.drew.below hb11)
  have BY11 := Lib.hid (BY10.out.drew.below hb11)
  have BX11 := Lib.hid (BX10.out.drew.below hb11)
  have X1k := Lib.hid (X1j.out.drew.below hb11)
  have X2k := Lib.hid (X2j.out.drew.below hb11)
  have B11 := Lib.hid ((Below.refl w10.heap.size w10).drew.trans hb11)
  clear ho11 hb11
  refine wpAnyH_ready (rs := [3]) (by kernel_rfl) (by simp) ?_
  refine AllReadyH.cons rfl (fun K hK => ?_) AllReadyH.nil
  go_simp
  (go_at_call 20; refine (eqOpt_l o1 _ _ _ _ OX11.out.rd OZ11.out.rd).mono ?_; rintro e w12 ⟨rfl, hb12⟩)
  try go_wp2_with fail
  refine hK.out _ _ ?_ (fun hHeld => ?_)
  · exact ⟨BX11.out.below hb12, X1k.out.below hb12, B11.out.trans (hb12.mono B11.out.size)⟩
  clear hK K
  try simp only [Act.put, List.setIfInBounds_toArray, List.set_cons_zero, List.set_cons_succ]
  have OY12 := Lib.hid (OY11.out.below hb12)
  have BY12 := Lib.hid (BY11.out.below hb12)
  have X2l := Lib.hid (X2k.out.below hb12)
  have B12 := Lib.hid (B11.out.trans (hb12.mono B11.out.size))
  have L12 := Lib.hid (L10.out.trans (B12.out.mono L10.out.size))
  clear hb12
  refine wpAnyH_take (i := 4) (v := ?_) rfl (by kernel_rfl) (by kernel_rfl) (by kernel_rfl) (fun _ _ _ h => h) (Or.inl ⟨by rfl, ?_⟩) (by assumption) ?_
  rotate_left
  · (intro w hSw; (try dsimp only at hSw); go_simp; try (with_reducible rfl))
  try simp only [Act.put, List.setIfInBounds_toArray, List.set_cons_zero, List.set_cons_succ]
  refine wpAnyH_done (by kernel_rfl) ?_ _
  repeat clear hHeld
  go_upto_region 16 with (fail)
  refine wp_region_held_drew (S := fun w' => Bx w' w8.heap.size (voC o2 (.slice A8 o2.ids.length c8)) ∧ Bx w' (w.heap.size + 1) (voC o2 (.slice A2 n2 cp2)) ∧ Below w12.heap.size w12 w') (by kernel_rfl) ⟨BY12.out.drew, X2l.out.drew, (Below.refl _ w12).drew⟩ (fun hHeld => ?_)
  refine wpAnyH_take (i := 0) rfl (by kernel_rfl) (by kernel_rfl) (by kernel_rfl) (fun _ _ _ h => h) (yields_opt (by kernel_rfl) rfl (by rfl) (fun w h => h.1)) (by assumption) ?_
  try simp only [Act.put, List.setIfInBounds_toArray, List.set_cons_zero, List.set_cons_succ]
  refine wpAnyH_take (i := 1) rfl (by kernel_rfl) (by kernel_rfl) (by kernel_rfl) (fun _ _ _ h => h) (yields_optL (by kernel_rfl) rfl (by rfl) (fun w h => h.2.1)) (by assumption) ?_
  try simp only [Act.put, List.setIfInBounds_toArray, List.set_cons_zero, List.set_cons_succ]
  refine wpAnyH_ready (rs := [2]) (by kernel_rfl) (by simp) ?_
  refine AllReadyH.cons rfl (fun K hK => ?_) AllReadyH.nil
  go_simp
  (go_at_call 18; refine (toOpt_l o2 _ n2 _ (H2.out.below L12.out.drew) (by omega)).mono ?_; rintro e w13 ⟨y2, rfl, ho13, hb13⟩)
  try go_wp2_with fail
  refine hK.out _ _ ?_ (fun hHeld => ?_)
  · exact ⟨BY12.out.drew.below hb13, X2l.out.drew.below hb13, (Below.refl w12.heap.size w12).drew.trans hb13⟩
  clear hK K
  try simp only [Act.put, List.setIfInBounds_toArray, List.set_cons_zero, List.set_cons_succ]
  have OZ13 := Lib.hid ho13
  have OY13 := Lib.hid (OY12.out.drew.below hb13)
  have BY13 := Lib.hid (BY12.out.drew.below hb13)
  have X2m := Lib.hid (X2l.out.drew.below hb13)
  have B13 := Lib.hid ((Below.refl w12.heap.size w12).drew.trans hb13)
  clear ho13 hb13
  refine wpAnyH_ready (rs := [3]) (by kernel_rfl) (by simp) ?_
  refine AllReadyH.cons rfl (fun K hK => ?_) AllReadyH.nil
  go_simp
  (go_at_call 20; refine (eqOpt_l o2 _ _ _ _ OY13.out.rd OZ13.out.rd).mono ?_; rintro e w14 ⟨rfl, hb14⟩)
  try go_wp2_with fail
  refine hK.out _ _ ?_ (fun hHeld => ?_)
  · exact ⟨BY13.out.below hb14, X2m.out.below hb14, B13.out.trans (hb14.mono B13.out.size)⟩
  clear hK K
  try simp only [Act.put, List.setIfInBounds_toArray, List.set_cons_zero, List.set_cons_succ]
  have B14 := Lib.hid (B13.out.trans (hb14.mono B13.out.size))
  have L14 := Lib.hid (L12.out.trans (B14.out.mono L12.out.size))
  clear hb14
  refine wpAnyH_take (i := 4) (v := ?_) rfl (by kernel_rfl) (by kernel_rfl) (by kernel_rfl) (fun _ _ _ h => h) (Or.inl ⟨by rfl, ?_⟩) (by assumption) ?_
  rotate_left
  · (intro w hSw; (try dsimp only at hSw); go_simp; try (with_reducible rfl))
  try simp only [Act.put, List.setIfInBounds_toArray, List.set_cons_zero, List.set_cons_succ]
  refine wpAnyH_done (by kernel_rfl) ?_ _
  repeat clear hHeld
  go_wp2
  go_ret
  exact ⟨rfl, L14.out⟩
end Go.Proofs.Ytkgbkgonlopciaa

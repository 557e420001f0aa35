/- The walk of the law of OptText. -/
import Derived.Test.YtkgbkgonlopciaaF4
import Derived.Test.YtkgbkgonlopciaaA23
import Derived.Test.YtkgbkgonlopciaaK6
import Derived.Deep.Cut
import Derived.Deep.RegionHeld
namespace Go.Proofs.Ytkgbkgonlopciaa
open Go.RowKit
set_option linter.unusedVariables false
set_option linter.unusedSimpArgs false
set_option maxRecDepth 100000 in
set_option maxHeartbeats 1600000 in
theorem law_OptText (o : OD) (i1 : Value) (n : Nat) (w : World) (h1 : Rd w 1 i1 n (o.ids.map vn)) (z1 : o.wf) :
    Calls Try.prog 8 #[vo o i1] w fun e w' => e = .returned (.bool true) ∧ Below w.heap.size w w' := by
  have hk1 := z1.2.1
  unfold maxLen at hk1
  have e1 := Lib.hid (rd_ids h1)
  have Z1 := Lib.hid z1
  have H1 := Lib.hid h1
  clear h1 z1
  obtain ⟨A1, cp1, rfl, _⟩ := H1.out.shape
  go_enter Try.func8, Try.ntmps8
  go_upto_region 2 with (fail)
  obtain ⟨W, hW⟩ : ∃ W, W = w.alloc (.cells (voC o (.slice A1 n cp1)).toArray 24) := ⟨_, rfl⟩
  change Code.wp _ _ _ _ (w.alloc (.cells (voC o (.slice A1 n cp1)).toArray 24))
  rw [← hW]
  have L0 := Lib.hid ((Below.refl w.heap.size w).alloc (Nat.le_refl _) (.cells (voC o (.slice A1 n cp1)).toArray 24))
  have X1 := Lib.hid (Bx.new w (voC o (.slice A1 n cp1)).toArray 24)
  rw [← hW] at L0 X1
  clear hW
  have R1 := Lib.hid (H1.out.below L0.out)
  by_cases c1 : szO o ≤ 1048576
  case neg =>
    go_wp2_with (refine wpl_optL rfl (by rfl) (by rfl) X1.out ?_)
    refine (szOpt_l_big o _ n 1048576 _ R1.out (by omega) (by omega) (by omega) (by omega)).mono ?_
    rintro e w1 ⟨rfl, hb⟩
    have HB := Lib.hid hb
    clear hb
    go_wp2
    go_ret
    exact ⟨rfl, L0.out.trans (HB.out.mono L0.out.size)⟩
  obtain ⟨q, hq⟩ : ∃ q, q = 1048576 - szO o := ⟨_, rfl⟩
  have HQ := Lib.hid hq
  have hqb : q ≤ 1048576 := by omega
  clear hq
  have hn1 : n ≤ 1048576 := by have := e1.out; unfold szO at c1; omega
  have C1 := Lib.hid c1
  clear c1 hk1
  obtain ⟨x, hx⟩ : ∃ x, x = str (optL o) := ⟨_, rfl⟩
  have HX := Lib.hid hx
  clear hx
  go_wp2_with (refine wpl_optL rfl (by rfl) (by rfl) X1.out ?_)
  refine (szOpt_l o _ n 1048576 _ R1.out (by omega) C1.out).mono ?_
  rintro e w2 ⟨rfl, hb⟩
  rw [← HQ.out]
  have L2 := Lib.hid (L0.out.trans (hb.mono L0.out.size))
  have X2 := Lib.hid (X1.out.below hb)
  clear hb X1 R1
  go_wp2_with (refine wpl_optL rfl (by rfl) (by rfl) X2.out ?_)
  refine (toOpt_l o _ n _ (H1.out.below L2.out) (by omega)).mono ?_
  rintro e w3 ⟨t1, rfl, ho3, hb3⟩
  obtain ⟨A3, c3, rfl⟩ := ho3.shape
  have O3 := Lib.hid ho3
  have L3 := Lib.hid (L2.out.trans (hb3.mono L2.out.size))
  have X3 := Lib.hid (X2.out.below hb3)
  clear ho3 hb3
  go_wp2_with fail
  refine (optText_s o A3 _ c3 _ O3.out.rd Z1.out).mono ?_
  rw [← HX.out]
  rintro e w5 ⟨rfl, hb5⟩
  have L5 := Lib.hid (L3.out.trans (hb5.mono L3.out.size))
  have X5 := Lib.hid (X3.out.below hb5)
  clear hb5
  go_wp2_with (refine wpl_optL rfl (by rfl) (by rfl) X5.out ?_)
  refine (toOpt_l o _ n _ (H1.out.below L5.out) (by omega)).mono ?_
  rintro e w6 ⟨x1, rfl, ho6, hb6⟩
  obtain ⟨A6, c6, rfl⟩ := ho6.shape
  have OX6 := Lib.hid ho6
  have L6 := Lib.hid (L5.out.trans (hb6.mono L5.out.size))
  have X6 := Lib.hid (X5.out.below hb6)
  clear ho6 hb6
  go_upto_region 7 with ((refine wpl_store_opt rfl (by rfl) (by rfl) (by rfl) ?_))
  obtain ⟨W6, hW6⟩ : ∃ W, W = w6.alloc (.cells (voC o (.slice A6 o.ids.length c6)).toArray 27) := ⟨_, rfl⟩
  rw [← hW6]
  have BX := Lib.hid (Bx.new w6 (voC o (.slice A6 o.ids.length c6)).toArray 27)
  have B6 := Lib.hid ((Below.refl w6.heap.size w6).alloc (Nat.le_refl _) (.cells (voC o (.slice A6 o.ids.length c6)).toArray 27))
  rw [← hW6] at BX B6
  clear hW6
  have OX := Lib.hid (OX6.out.below B6.out)
  have L7 := Lib.hid (L6.out.trans (B6.out.mono L6.out.size))
  have X7 := Lib.hid (X6.out.below B6.out)
  clear OX6 B6
  go_wp2_with (refine wpl_opt rfl (by rfl) (by rfl) BX.out ?_)
  refine (optText_i o A6 _ c6 _ OX.out.rd (by have := e1.out; omega) Z1.out).mono ?_
  rw [← HX.out]
  rintro e w10 ⟨rfl, hb10⟩
  have OX10 := Lib.hid (OX.out.below hb10)
  have BX10 := Lib.hid (BX.out.below hb10)
  have X10 := Lib.hid (X7.out.below hb10)
  have L10 := Lib.hid (L7.out.trans (hb10.mono L7.out.size))
  clear hb10 OX BX
  go_upto_region 10 with (fail)
  refine wp_region_held_drew (S := fun w' => Bx w' w6.heap.size (voC o (.slice A6 o.ids.length c6)) ∧ Bx w' w.heap.size (voC o (.slice A1 n cp1)) ∧ Below w10.heap.size w10 w') (by kernel_rfl) ⟨BX10.out.drew, X10.out.drew, (Below.refl _ w10).drew⟩ (fun hHeld => ?_)
  refine wpAnyH_take (i := 0) rfl (by kernel_rfl) (by kernel_rfl) (by kernel_rfl) (fun _ _ _ h => h) (yields_opt (by kernel_rfl) rfl (by rfl) (fun w h => h.1)) (by assumption) ?_
  try simp only [Act.put, List.setIfInBounds_toArray, List.set_cons_zero, List.set_cons_succ]
  refine wpAnyH_take (i := 1) rfl (by kernel_rfl) (by kernel_rfl) (by kernel_rfl) (fun _ _ _ h => h) (yields_optL (by kernel_rfl) rfl (by rfl) (fun w h => h.2.1)) (by assumption) ?_
  try simp only [Act.put, List.setIfInBounds_toArray, List.set_cons_zero, List.set_cons_succ]
  refine wpAnyH_ready (rs := [2]) (by kernel_rfl) (by simp) ?_
  refine AllReadyH.cons rfl (fun K hK => ?_) AllReadyH.nil
  go_simp
  (go_at_call 18; refine (toOpt_l o _ n _ (H1.out.below L10.out.drew) (by omega)).mono ?_; rintro e w11 ⟨y1, rfl, ho11, hb11⟩)
  try go_wp2_with fail
  refine hK.out _ _ ?_ (fun hHeld => ?_)
  · exact ⟨BX10.out.drew.below hb11, X10.out.drew.below hb11, (Below.refl w10.heap.size w10).drew.trans hb11⟩
  clear hK K
  try simp only [Act.put, List.setIfInBounds_toArray, List.set_cons_zero, List.set_cons_succ]
  have OZ11 := Lib.hid ho11
  have OX11 := Lib.hid (OX10.out.drew.below hb11)
  have BX11 := Lib.hid (BX10.out.drew.below hb11)
  have X11 := Lib.hid (X10.out.drew.below hb11)
  have B11 := Lib.hid ((Below.refl w10.heap.size w10).drew.trans hb11)
  clear ho11 hb11
  refine wpAnyH_ready (rs := [3]) (by kernel_rfl) (by simp) ?_
  refine AllReadyH.cons rfl (fun K hK => ?_) AllReadyH.nil
  go_simp
  (go_at_call 20; refine (eqOpt_l o _ _ _ _ OX11.out.rd OZ11.out.rd).mono ?_; rintro e w12 ⟨rfl, hb12⟩)
  try go_wp2_with fail
  refine hK.out _ _ ?_ (fun hHeld => ?_)
  · exact ⟨BX11.out.below hb12, X11.out.below hb12, B11.out.trans (hb12.mono B11.out.size)⟩
  clear hK K
  try simp only [Act.put, List.setIfInBounds_toArray, List.set_cons_zero, List.set_cons_succ]
  have B12 := Lib.hid (B11.out.trans (hb12.mono B11.out.size))
  have L12 := Lib.hid (L10.out.trans (B12.out.mono L10.out.size))
  clear hb12
  refine wpAnyH_take (i := 4) (v := ?_) rfl (by kernel_rfl) (by kernel_rfl) (by kernel_rfl) (fun _ _ _ h => h) (Or.inl ⟨by rfl, ?_⟩) (by assumption) ?_
  rotate_left
  · (intro w hSw; (try dsimp only at hSw); go_simp; try (with_reducible rfl))
  try simp only [Act.put, List.setIfInBounds_toArray, List.set_cons_zero, List.set_cons_succ]
  refine wpAnyH_done (by kernel_rfl) ?_ _
  repeat clear hHeld
  go_wp2
  go_ret
  exact ⟨rfl, L12.out⟩
end Go.Proofs.Ytkgbkgonlopciaa

/- The walk of the law of SegText. -/
import Derived.Test.YtkgbkgonlopciaaA29
import Derived.Test.YtkgbkgonlopciaaK10
import Derived.Test.YtkgbkgonlopciaaM9
import Derived.Deep.Cut
import Derived.Deep.RegionHeld
namespace Go.Proofs.Ytkgbkgonlopciaa
open Go.RowKit
set_option linter.unusedVariables false
set_option linter.unusedSimpArgs false
set_option maxRecDepth 100000 in
set_option maxHeartbeats 1600000 in
theorem law_SegText (x : SD) (ov : Value) (n : Nat) (ivs : List Value) (w : World) (h1 : RdO w ov n x.ops ivs) (z1 : x.wf) :
    Calls Try.prog 13 #[vx x ov] w fun e w' => e = .returned (.bool true) ∧ Below w.heap.size w w' := by
  have hlo := h1.lo
  have Z1 := Lib.hid z1
  have H1 := Lib.hid h1
  clear h1 z1
  obtain ⟨A1, cp1, rfl, _⟩ := H1.out.shape
  go_enter Try.func13, Try.ntmps13
  go_upto_region 2 with (fail)
  obtain ⟨W, hW⟩ : ∃ W, W = w.alloc (.cells (vxC x (.slice A1 n cp1)).toArray 32) := ⟨_, rfl⟩
  change Code.wp _ _ _ _ (w.alloc (.cells (vxC x (.slice A1 n cp1)).toArray 32))
  rw [← hW]
  have L0 := Lib.hid ((Below.refl w.heap.size w).alloc (Nat.le_refl _) (.cells (vxC x (.slice A1 n cp1)).toArray 32))
  have X1 := Lib.hid (Bx.new w (vxC x (.slice A1 n cp1)).toArray 32)
  rw [← hW] at L0 X1
  clear hW
  have R1 := Lib.hid (H1.out.below L0.out)
  by_cases c1 : szX x ≤ 1048576
  case neg =>
    go_wp2_with (refine wpl_segL rfl (by rfl) (by rfl) X1.out ?_)
    refine (szSeg_l_big x _ n ivs 1048576 _ R1.out Z1.out (by omega) (by omega)).mono ?_
    rintro e w1 ⟨rfl, hb⟩
    have HB := Lib.hid hb
    clear hb
    go_wp2
    go_ret
    exact ⟨rfl, L0.out.trans (HB.out.mono L0.out.size)⟩
  obtain ⟨q, hq⟩ : ∃ q, q = 1048576 - szX x := ⟨_, rfl⟩
  have HQ := Lib.hid hq
  have hqb : q ≤ 1048576 := by omega
  clear hq
  have hn1 : n ≤ 1048576 := by unfold szX at c1; omega
  have HNI : Hid (∀ o ∈ x.ops, o.ids.length ≤ 4294967296) := Lib.hid (fun o ho => by have := ids_sum ho; unfold szX at c1; omega)
  have C1 := Lib.hid c1
  have HLO := Lib.hid hlo
  clear c1 hlo
  obtain ⟨z, hz⟩ : ∃ z, z = str (segL x) := ⟨_, rfl⟩
  have HZ := Lib.hid hz
  clear hz
  go_wp2_with (refine wpl_segL rfl (by rfl) (by rfl) X1.out ?_)
  refine (szSeg_l x _ n ivs 1048576 _ R1.out (by omega) C1.out).mono ?_
  rintro e w2 ⟨rfl, hb⟩
  rw [← HQ.out]
  have L2 := Lib.hid (L0.out.trans (hb.mono L0.out.size))
  have X2 := Lib.hid (X1.out.below hb)
  clear hb X1 R1
  go_wp2_with (refine wpl_segL rfl (by rfl) (by rfl) X2.out ?_)
  refine (toSeg_l x _ n ivs _ (H1.out.below L2.out) hn1 HNI.out).mono ?_
  rintro e w3 ⟨t1, jvs, rfl, ho3, _, hb3⟩
  rw [HLO.out] at ho3
  obtain ⟨A3, c3, rfl, _⟩ := ho3.rd.shape
  have O3 := Lib.hid ho3
  have L3 := Lib.hid (L2.out.trans (hb3.mono L2.out.size))
  have X3 := Lib.hid (X2.out.below hb3)
  clear ho3 hb3
  go_wp2_with fail
  refine (segText_s x A3 n c3 jvs _ O3.out.rd Z1.out HNI.out).mono ?_
  rw [← HZ.out]
  rintro e w5 ⟨rfl, hb5⟩
  have L5 := Lib.hid (L3.out.trans (hb5.mono L3.out.size))
  have X5 := Lib.hid (X3.out.below hb5)
  clear hb5
  go_wp2_with (refine wpl_segL rfl (by rfl) (by rfl) X5.out ?_)
  refine (toSeg_l x _ n ivs _ (H1.out.below L5.out) hn1 HNI.out).mono ?_
  rintro e w6 ⟨x1, kvs, rfl, ho6, _, hb6⟩
  rw [HLO.out] at ho6
  obtain ⟨A6, c6, rfl, _⟩ := ho6.rd.shape
  have OX6 := Lib.hid ho6
  have L6 := Lib.hid (L5.out.trans (hb6.mono L5.out.size))
  have X6 := Lib.hid (X5.out.below hb6)
  clear ho6 hb6
  go_upto_region 7 with ((refine wpl_store_seg rfl (by rfl) (by rfl) (by rfl) ?_))
  obtain ⟨W6, hW6⟩ : ∃ W, W = w6.alloc (.cells (vxC x (.slice A6 n c6)).toArray 37) := ⟨_, rfl⟩
  rw [← hW6]
  have BX := Lib.hid (Bx.new w6 (vxC x (.slice A6 n c6)).toArray 37)
  have B6 := Lib.hid ((Below.refl w6.heap.size w6).alloc (Nat.le_refl _) (.cells (vxC x (.slice A6 n c6)).toArray 37))
  rw [← hW6] at BX B6
  clear hW6
  have OX := Lib.hid (OX6.out.below B6.out)
  have L7 := Lib.hid (L6.out.trans (B6.out.mono L6.out.size))
  have X7 := Lib.hid (X6.out.below B6.out)
  clear OX6 B6
  go_wp2_with (refine wpl_segI rfl (by rfl) (by rfl) BX.out ?_)
  refine (segText_i x A6 n c6 kvs _ OX.out.rd Z1.out HNI.out).mono ?_
  rw [← HZ.out]
  rintro e w10 ⟨rfl, hb10⟩
  have OX10 := Lib.hid (OX.out.below hb10)
  have BX10 := Lib.hid (BX.out.below hb10)
  have X10 := Lib.hid (X7.out.below hb10)
  have L10 := Lib.hid (L7.out.trans (hb10.mono L7.out.size))
  clear hb10 OX BX
  go_upto_region 10 with (fail)
  refine wp_region_held_drew (S := fun w' => Bx w' w6.heap.size (vxC x (.slice A6 n c6)) ∧ Bx w' w.heap.size (vxC x (.slice A1 n cp1)) ∧ Below w10.heap.size w10 w') (by kernel_rfl) ⟨BX10.out.drew, X10.out.drew, (Below.refl _ w10).drew⟩ (fun hHeld => ?_)
  refine wpAnyH_take (i := 0) (oi := ⟨some 22, _, _, _, _, _⟩) rfl (by kernel_rfl) (by kernel_rfl) (by kernel_rfl) (fun _ _ _ h => h) (yields_seg (by kernel_rfl) rfl (by rfl) (fun w h => h.1)) (by assumption) ?_
  try simp only [Act.put, List.setIfInBounds_toArray, List.set_cons_zero, List.set_cons_succ]
  refine wpAnyH_take (i := 1) (oi := ⟨some 23, _, _, _, _, _⟩) rfl (by kernel_rfl) (by kernel_rfl) (by kernel_rfl) (fun _ _ _ h => h) (yields_segL (by kernel_rfl) rfl (by rfl) (fun w h => h.2.1)) (by assumption) ?_
  try simp only [Act.put, List.setIfInBounds_toArray, List.set_cons_zero, List.set_cons_succ]
  refine wpAnyH_ready (rs := [2]) (by kernel_rfl) (by simp) ?_
  refine AllReadyH.cons (o := ⟨some 24, _, _, _, _, _⟩) rfl (fun K hK => ?_) AllReadyH.nil
  go_simp
  (go_at_call 23; refine (toSeg_l x _ n ivs _ (H1.out.below L10.out.drew) hn1 HNI.out).mono ?_; rintro e w11 ⟨y1, lvs, rfl, ho11, _, hb11⟩; rw [HLO.out] at ho11)
  try go_wp2_with fail
  refine hK.out _ _ ?_ (fun hHeld => ?_)
  · exact ⟨BX10.out.drew.below hb11, X10.out.drew.below hb11, (Below.refl w10.heap.size w10).drew.trans hb11⟩
  clear hK K
  try simp only [Act.put, List.setIfInBounds_toArray, List.set_cons_zero, List.set_cons_succ]
  have OZ11 := Lib.hid ho11
  have OX11 := Lib.hid ((OX10.out.below (Below.refl _ w10).drew).below hb11)
  have BX11 := Lib.hid (BX10.out.drew.below hb11)
  have X11 := Lib.hid (X10.out.drew.below hb11)
  have B11 := Lib.hid ((Below.refl w10.heap.size w10).drew.trans hb11)
  clear ho11 hb11
  refine wpAnyH_ready (rs := [3]) (by kernel_rfl) (by simp) ?_
  refine AllReadyH.cons (o := ⟨some 25, _, _, _, _, _⟩) rfl (fun K hK => ?_) AllReadyH.nil
  go_simp
  (go_at_call 25; refine (eqSeg_l x _ _ n _ _ _ OX11.out.rd OZ11.out.rd).mono ?_; rintro e w12 ⟨rfl, hb12⟩)
  try go_wp2_with fail
  refine hK.out _ _ ?_ (fun hHeld => ?_)
  · exact ⟨BX11.out.below hb12, X11.out.below hb12, B11.out.trans (hb12.mono B11.out.size)⟩
  clear hK K
  try simp only [Act.put, List.setIfInBounds_toArray, List.set_cons_zero, List.set_cons_succ]
  have B12 := Lib.hid (B11.out.trans (hb12.mono B11.out.size))
  have L12 := Lib.hid (L10.out.trans (B12.out.mono L10.out.size))
  clear hb12
  refine wpAnyH_take (i := 4) (oi := ⟨some 26, _, _, _, _, _⟩) (v := ?_) rfl (by kernel_rfl) (by kernel_rfl) (by kernel_rfl) (fun _ _ _ h => h) (Or.inl ⟨by kernel_rfl, ?_⟩) (by assumption) ?_
  rotate_left
  · (intro w hSw; (try dsimp only at hSw); go_simp; try (with_reducible rfl))
  try simp only [Act.put, List.setIfInBounds_toArray, List.set_cons_zero, List.set_cons_succ]
  refine wpAnyH_done (by kernel_rfl) ?_ _
  repeat clear hHeld
  go_wp2
  go_ret
  exact ⟨rfl, L12.out⟩
end Go.Proofs.Ytkgbkgonlopciaa

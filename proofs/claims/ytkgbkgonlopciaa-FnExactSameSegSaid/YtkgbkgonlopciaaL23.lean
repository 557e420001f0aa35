/- The walk of the law of SameSeg. -/
import Derived.Test.YtkgbkgonlopciaaA30
import Derived.Test.YtkgbkgonlopciaaK10
import Derived.Test.YtkgbkgonlopciaaM9
import Derived.Deep.Cut
import Derived.Deep.RegionHeld
namespace Go.Proofs.Ytkgbkgonlopciaa
open Go.RowKit
set_option linter.unusedVariables false
set_option linter.unusedSimpArgs false
set_option maxRecDepth 100000 in
set_option maxHeartbeats 3200000 in
theorem law_SameSeg (x : SD) (xv : Value) (n : Nat) (ivs : List Value) (y : SD) (yv : Value) (m : Nat) (jvs : List Value) (w : World) (h1 : RdO w xv n x.ops ivs) (z1 : x.wf) (h2 : RdO w yv m y.ops jvs) (z2 : y.wf) :
    Calls Try.prog 4 #[vx x xv, vx y yv] w fun e w' => e = .returned (.bool true) ∧ Below w.heap.size w w' := by
  have HLX := Lib.hid h1.lo
  have HLY := Lib.hid h2.lo
  have Z1 := Lib.hid z1
  have Z2 := Lib.hid z2
  have H1 := Lib.hid h1
  have H2 := Lib.hid h2
  clear h1 z1 h2 z2
  obtain ⟨A1, p1, rfl, _⟩ := H1.out.shape
  obtain ⟨A2, p2, rfl, _⟩ := H2.out.shape
  go_enter Try.func4, Try.ntmps4
  go_upto_region 2 with (fail)
  obtain ⟨W, hW⟩ : ∃ W, W = (w.alloc (.cells (vxC x (.slice A1 n p1)).toArray 32)).alloc (.cells (vxC y (.slice A2 m p2)).toArray 32) := ⟨_, rfl⟩
  change Code.wp _ _ _ _ ((w.alloc (.cells (vxC x (.slice A1 n p1)).toArray 32)).alloc (.cells (vxC y (.slice A2 m p2)).toArray 32))
  rw [← hW]
  have L0 := Lib.hid (((Below.refl w.heap.size w).alloc (Nat.le_refl _) (.cells (vxC x (.slice A1 n p1)).toArray 32)).alloc (by simp) (.cells (vxC y (.slice A2 m p2)).toArray 32))
  have X0 := Lib.hid ((Bx.new w (vxC x (.slice A1 n p1)).toArray 32).alloc (.cells (vxC y (.slice A2 m p2)).toArray 32))
  have Y0 := Lib.hid (Bx.new (w.alloc (.cells (vxC x (.slice A1 n p1)).toArray 32)) (vxC y (.slice A2 m p2)).toArray 32)
  rw [← hW] at L0 X0 Y0
  simp only [World.size_alloc] at Y0
  clear hW
  by_cases c1 : szX x ≤ 1048576
  case neg =>
    go_wp2_with (refine wpl_segL rfl (by rfl) (by rfl) X0.out ?_)
    refine (szSeg_l_big x _ n ivs 1048576 _ (H1.out.below L0.out) Z1.out (by omega) (by omega)).mono ?_
    rintro e w1 ⟨rfl, hb⟩
    have HB := Lib.hid hb
    clear hb
    go_wp2
    go_ret
    exact ⟨rfl, L0.out.trans (HB.out.mono L0.out.size)⟩
  obtain ⟨q, hq⟩ : ∃ q, q = 1048576 - szX x := ⟨_, rfl⟩
  have HQ := Lib.hid hq
  have hqb : q ≤ 1048576 := by omega
  clear hq
  have hn1 : n ≤ 1048576 := by have := HLX.out; unfold szX at c1; omega
  have HNX : Hid (∀ o ∈ x.ops, o.ids.length ≤ 4294967296) := Lib.hid (fun o ho => by have := ids_sum ho; unfold szX at c1; omega)
  have C1 := Lib.hid c1
  clear c1
  go_wp2_with (refine wpl_segL rfl (by rfl) (by rfl) X0.out ?_)
  refine (szSeg_l x _ n ivs 1048576 _ (H1.out.below L0.out) (by omega) C1.out).mono ?_
  rintro e w2 ⟨rfl, hb⟩
  rw [← HQ.out]
  have L2 := Lib.hid (L0.out.trans (hb.mono L0.out.size))
  have X2 := Lib.hid (X0.out.below hb)
  have Y2 := Lib.hid (Y0.out.below hb)
  clear hb X0 Y0 L0
  by_cases c2 : szX y ≤ q
  case neg =>
    go_wp2_with (refine wpl_segL rfl (by rfl) (by rfl) Y2.out ?_)
    refine (szSeg_l_big y _ m jvs q _ (H2.out.below L2.out) Z2.out (by omega) (by omega)).mono ?_
    rintro e w1 ⟨rfl, hb⟩
    have HB := Lib.hid hb
    clear hb
    go_wp2
    go_ret
    exact ⟨rfl, L2.out.trans (HB.out.mono L2.out.size)⟩
  obtain ⟨q2, hq2⟩ : ∃ q2, q2 = q - szX y := ⟨_, rfl⟩
  have HQ2 := Lib.hid hq2
  have hq2b : q2 ≤ 1048576 := by omega
  clear hq2
  have hm1 : m ≤ 1048576 := by have := HLY.out; unfold szX at c2; omega
  have HNY : Hid (∀ o ∈ y.ops, o.ids.length ≤ 4294967296) := Lib.hid (fun o ho => by have := ids_sum ho; unfold szX at c2; omega)
  have C2 := Lib.hid c2
  clear c2
  go_wp2_with (refine wpl_segL rfl (by rfl) (by rfl) Y2.out ?_)
  refine (szSeg_l y _ m jvs q _ (H2.out.below L2.out) (by omega) C2.out).mono ?_
  rintro e w3 ⟨rfl, hb⟩
  rw [← HQ2.out]
  have L3 := Lib.hid (L2.out.trans (hb.mono L2.out.size))
  have X3 := Lib.hid (X2.out.below hb)
  have Y3 := Lib.hid (Y2.out.below hb)
  clear hb X2 Y2 L2
  go_upto_region 8 with (fail)
  have keep : ∀ w', Below w3.heap.size w3 w' → Bx w' w.heap.size (vxC x (.slice A1 n p1)) ∧ Bx w' (w.heap.size + 1) (vxC y (.slice A2 m p2)) ∧ Below w3.heap.size w3 w' := fun w' hb => ⟨X3.out.below hb, Y3.out.below hb, hb⟩
  have HKP := Lib.hid keep
  have B0 := Lib.hid (Below.refl w3.heap.size w3).drew
  clear keep
  refine wp_region_held_drew (S := fun w' => Bx w' w.heap.size (vxC x (.slice A1 n p1)) ∧ Bx w' (w.heap.size + 1) (vxC y (.slice A2 m p2)) ∧ Below w3.heap.size w3 w') (by kernel_rfl) (HKP.out _ B0.out) (fun hHeld => ?_)
  refine wpAnyH_take (i := 0) (oi := ⟨some 20, _, _, _, _, _⟩) rfl (by kernel_rfl) (by kernel_rfl) (by kernel_rfl) (fun _ _ _ h => h) (yields_segL (by kernel_rfl) rfl (by rfl) (fun w h => h.1)) (by assumption) ?_
  try simp only [Act.put, List.setIfInBounds_toArray, List.set_cons_zero, List.set_cons_succ]
  refine wpAnyH_take (i := 2) (oi := ⟨some 22, _, _, _, _, _⟩) rfl (by kernel_rfl) (by kernel_rfl) (by kernel_rfl) (fun _ _ _ h => h) (yields_segL (by kernel_rfl) rfl (by rfl) (fun w h => h.2.1)) (by assumption) ?_
  try simp only [Act.put, List.setIfInBounds_toArray, List.set_cons_zero, List.set_cons_succ]
  refine wpAnyH_ready (rs := [1]) (by kernel_rfl) (by simp) ?_
  refine AllReadyH.cons (o := ⟨some 21, _, _, _, _, _⟩) rfl (fun K hK => ?_) AllReadyH.nil
  go_simp
  (go_at_call 23; refine (toSeg_l x _ n ivs _ (H1.out.below (L3.out.trans (B0.out.mono L3.out.size))) hn1 HNX.out).mono ?_; rintro e w4 ⟨xt, kvs, rfl, hxo, _, hb⟩; rw [HLX.out] at hxo; obtain ⟨A3, p3, rfl, _⟩ := hxo.rd.shape)
  try go_wp2_with fail
  refine hK.out _ _ ?_ (fun hHeld => ?_)
  · exact HKP.out _ (B0.out.trans (hb.mono B0.out.size))
  clear hK K
  try simp only [Act.put, List.setIfInBounds_toArray, List.set_cons_zero, List.set_cons_succ]
  have B1 := Lib.hid (B0.out.trans (hb.mono B0.out.size))
  have XT := Lib.hid hxo
  clear hb hxo B0
  refine wpAnyH_ready (rs := [3]) (by kernel_rfl) (by simp) ?_
  refine AllReadyH.cons (o := ⟨some 23, _, _, _, _, _⟩) rfl (fun K hK => ?_) AllReadyH.nil
  go_simp
  (go_at_call 23; refine (toSeg_l y _ m jvs _ (H2.out.below (L3.out.trans (B1.out.mono L3.out.size))) hm1 HNY.out).mono ?_; rintro e w5 ⟨yt, lvs, rfl, hyo, _, hb⟩; rw [HLY.out] at hyo; obtain ⟨A4, p4, rfl, _⟩ := hyo.rd.shape)
  try go_wp2_with fail
  refine hK.out _ _ ?_ (fun hHeld => ?_)
  · exact HKP.out _ (B1.out.trans (hb.mono B1.out.size))
  clear hK K
  try simp only [Act.put, List.setIfInBounds_toArray, List.set_cons_zero, List.set_cons_succ]
  have B2 := Lib.hid (B1.out.trans (hb.mono B1.out.size))
  have YT := Lib.hid hyo
  have XT2 := Lib.hid (XT.out.below hb)
  clear hb hyo B1 XT
  refine wpAnyH_ready (rs := [4]) (by kernel_rfl) (by simp) ?_
  refine AllReadyH.cons (o := ⟨some 24, _, _, _, _, _⟩) rfl (fun K hK => ?_) AllReadyH.nil
  go_simp
  (go_at_call 22; refine (sameSeg_s x y A3 A4 n m p3 p4 kvs lvs _ XT2.out.rd YT.out.rd).mono ?_; rintro e w6 ⟨r, rfl, hr, hb⟩)
  try go_wp2_with fail
  refine hK.out _ _ ?_ (fun hHeld => ?_)
  · exact HKP.out _ (B2.out.trans (hb.mono B2.out.size))
  clear hK K
  try simp only [Act.put, List.setIfInBounds_toArray, List.set_cons_zero, List.set_cons_succ]
  have B3 := Lib.hid (B2.out.trans (hb.mono B2.out.size))
  have HR := Lib.hid hr
  clear hb hr B2 XT2 YT
  refine wpAnyH_take (i := 5) (oi := ⟨some 6, _, _, _, _, _⟩) (v := ?_) rfl (by kernel_rfl) (by kernel_rfl) (by kernel_rfl) (fun _ _ _ h => h) (Or.inl ⟨by kernel_rfl, ?_⟩) (by assumption) ?_
  rotate_left
  · (intro w hSw; (try dsimp only at hSw); go_simp; try (with_reducible rfl))
  try simp only [Act.put, List.setIfInBounds_toArray, List.set_cons_zero, List.set_cons_succ]
  refine wpAnyH_done (by kernel_rfl) ?_ _
  repeat clear hHeld
  have L6 := Lib.hid (L3.out.trans (B3.out.mono L3.out.size))
  have X6 := Lib.hid (X3.out.below B3.out)
  have Y6 := Lib.hid (Y3.out.below B3.out)
  clear HKP B3 L3 X3 Y3
  go_wp2_with (refine wpl_segL rfl (by rfl) (by rfl) X6.out ?_)
  refine (toSeg_l x _ n ivs _ (H1.out.below L6.out) hn1 HNX.out).mono ?_
  rintro e w7 ⟨xt, kvs, rfl, hxo, _, hb⟩
  rw [HLX.out] at hxo
  obtain ⟨A5, p5, rfl, _⟩ := hxo.rd.shape
  have XO := Lib.hid hxo
  have L7 := Lib.hid (L6.out.trans (hb.mono L6.out.size))
  have X7 := Lib.hid (X6.out.below hb)
  have Y7 := Lib.hid (Y6.out.below hb)
  clear hb hxo L6 X6 Y6
  go_upto_region 10 with ((refine wpl_store_seg rfl (by rfl) (by rfl) (by rfl) ?_))
  obtain ⟨W7, hW7⟩ : ∃ W, W = w7.alloc (.cells (vxC x (.slice A5 n p5)).toArray 37) := ⟨_, rfl⟩
  rw [← hW7]
  obtain ⟨b7, hb7⟩ : ∃ b, b = w7.heap.size := ⟨_, rfl⟩
  have P8 := Lib.hid (Bx.new w7 (vxC x (.slice A5 n p5)).toArray 37)
  have E7 := Lib.hid ((Below.refl w7.heap.size w7).alloc (Nat.le_refl _) (.cells (vxC x (.slice A5 n p5)).toArray 37))
  rw [← hW7] at P8 E7
  have L8 := Lib.hid (L7.out.trans (E7.out.mono L7.out.size))
  have X8 := Lib.hid (X7.out.below E7.out)
  have Y8 := Lib.hid (Y7.out.below E7.out)
  have XO8 := Lib.hid (XO.out.below E7.out)
  rw [← hb7] at P8 ⊢
  clear hW7 hb7 E7 L7 X7 Y7 XO
  go_wp2_with (refine wpl_segL rfl (by rfl) (by rfl) Y8.out ?_)
  refine (toSeg_l y _ m jvs _ (H2.out.below L8.out) hm1 HNY.out).mono ?_
  rintro e w8 ⟨yt, lvs, rfl, hyo, _, hb⟩
  rw [HLY.out] at hyo
  obtain ⟨A6, p6, rfl, _⟩ := hyo.rd.shape
  have YO := Lib.hid hyo
  have L9 := Lib.hid (L8.out.trans (hb.mono L8.out.size))
  have X9 := Lib.hid (X8.out.below hb)
  have Y9 := Lib.hid (Y8.out.below hb)
  have P9 := Lib.hid (P8.out.below hb)
  have XO9 := Lib.hid (XO8.out.below hb)
  clear hb hyo L8 X8 Y8 P8 XO8
  go_upto_region 11 with ((refine wpl_store_seg rfl (by rfl) (by rfl) (by rfl) ?_))
  obtain ⟨W8, hW8⟩ : ∃ W, W = w8.alloc (.cells (vxC y (.slice A6 m p6)).toArray 37) := ⟨_, rfl⟩
  rw [← hW8]
  obtain ⟨b8, hb8⟩ : ∃ b, b = w8.heap.size := ⟨_, rfl⟩
  have Q10 := Lib.hid (Bx.new w8 (vxC y (.slice A6 m p6)).toArray 37)
  have E8 := Lib.hid ((Below.refl w8.heap.size w8).alloc (Nat.le_refl _) (.cells (vxC y (.slice A6 m p6)).toArray 37))
  rw [← hW8] at Q10 E8
  have L10 := Lib.hid (L9.out.trans (E8.out.mono L9.out.size))
  have X10 := Lib.hid (X9.out.below E8.out)
  have Y10 := Lib.hid (Y9.out.below E8.out)
  have P10 := Lib.hid (P9.out.below E8.out)
  have XO10 := Lib.hid (XO9.out.below E8.out)
  have YO10 := Lib.hid (YO.out.below E8.out)
  rw [← hb8] at Q10 ⊢
  clear hW8 hb8 E8 L9 X9 Y9 P9 XO9 YO
  go_wp2_with (first | (refine wpl_segI rfl (by rfl) (by rfl) P10.out ?_) | (refine wpl_segI rfl (by rfl) (by rfl) Q10.out ?_))
  refine (sameSeg_i x y A5 A6 n m p5 p6 kvs lvs _ XO10.out.rd YO10.out.rd).mono ?_
  rintro e w11 ⟨r', rfl, hr', hb⟩
  obtain rfl : r = r' := Bool.eq_iff_iff.2 (HR.out.trans hr'.symm)
  have L11 := Lib.hid (L10.out.trans (hb.mono L10.out.size))
  have X11 := Lib.hid (X10.out.below hb)
  have Y11 := Lib.hid (Y10.out.below hb)
  have P11 := Lib.hid (P10.out.below hb)
  have Q11 := Lib.hid (Q10.out.below hb)
  have XO11 := Lib.hid (XO10.out.below hb)
  have YO11 := Lib.hid (YO10.out.below hb)
  clear hb hr' L10 X10 Y10 P10 Q10 XO10 YO10 HR
  go_upto_region 14 with (fail)
  have keep : ∀ w', Below w11.heap.size w11 w' → Bx w' b7 (vxC x (.slice A5 n p5)) ∧ Bx w' w.heap.size (vxC x (.slice A1 n p1)) ∧ Below w11.heap.size w11 w' := fun w' hb => ⟨P11.out.below hb, X11.out.below hb, hb⟩
  have HKP := Lib.hid keep
  have B0 := Lib.hid (Below.refl w11.heap.size w11).drew
  clear keep
  refine wp_region_held_drew (S := fun w' => Bx w' b7 (vxC x (.slice A5 n p5)) ∧ Bx w' w.heap.size (vxC x (.slice A1 n p1)) ∧ Below w11.heap.size w11 w') (by kernel_rfl) (HKP.out _ B0.out) (fun hHeld => ?_)
  refine wpAnyH_take (i := 0) (oi := ⟨some 35, _, _, _, _, _⟩) rfl (by kernel_rfl) (by kernel_rfl) (by kernel_rfl) (fun _ _ _ h => h) (yields_seg (by kernel_rfl) rfl (by rfl) (fun w h => h.1)) (by assumption) ?_
  try simp only [Act.put, List.setIfInBounds_toArray, List.set_cons_zero, List.set_cons_succ]
  refine wpAnyH_take (i := 1) (oi := ⟨some 36, _, _, _, _, _⟩) rfl (by kernel_rfl) (by kernel_rfl) (by kernel_rfl) (fun _ _ _ h => h) (yields_segL (by kernel_rfl) rfl (by rfl) (fun w h => h.2.1)) (by assumption) ?_
  try simp only [Act.put, List.setIfInBounds_toArray, List.set_cons_zero, List.set_cons_succ]
  refine wpAnyH_ready (rs := [2]) (by kernel_rfl) (by simp) ?_
  refine AllReadyH.cons (o := ⟨some 37, _, _, _, _, _⟩) rfl (fun K hK => ?_) AllReadyH.nil
  go_simp
  (go_at_call 23; refine (toSeg_l x _ n ivs _ (H1.out.below (L11.out.trans (B0.out.mono L11.out.size))) hn1 HNX.out).mono ?_; rintro e w12 ⟨xt2, svs, rfl, hxo, _, hb⟩; rw [HLX.out] at hxo)
  try go_wp2_with fail
  refine hK.out _ _ ?_ (fun hHeld => ?_)
  · exact HKP.out _ (B0.out.trans (hb.mono B0.out.size))
  clear hK K
  try simp only [Act.put, List.setIfInBounds_toArray, List.set_cons_zero, List.set_cons_succ]
  have B1 := Lib.hid (B0.out.trans (hb.mono B0.out.size))
  have XT := Lib.hid hxo
  clear hb hxo B0
  refine wpAnyH_ready (rs := [3]) (by kernel_rfl) (by simp) ?_
  refine AllReadyH.cons (o := ⟨some 38, _, _, _, _, _⟩) rfl (fun K hK => ?_) AllReadyH.nil
  go_simp
  (go_at_call 25; refine (eqSeg_l x _ _ n _ _ _ (XO11.out.rd.below B1.out) XT.out.rd).mono ?_; rintro e w13 ⟨rfl, hb⟩)
  try go_wp2_with fail
  refine hK.out _ _ ?_ (fun hHeld => ?_)
  · exact HKP.out _ (B1.out.trans (hb.mono B1.out.size))
  clear hK K
  try simp only [Act.put, List.setIfInBounds_toArray, List.set_cons_zero, List.set_cons_succ]
  have B2 := Lib.hid (B1.out.trans (hb.mono B1.out.size))
  clear hb B1 XT
  refine wpAnyH_take (i := 4) (oi := ⟨some 39, _, _, _, _, _⟩) (v := ?_) rfl (by kernel_rfl) (by kernel_rfl) (by kernel_rfl) (fun _ _ _ h => h) (Or.inl ⟨by kernel_rfl, ?_⟩) (by assumption) ?_
  rotate_left
  · (intro w hSw; (try dsimp only at hSw); go_simp; try (with_reducible rfl))
  try simp only [Act.put, List.setIfInBounds_toArray, List.set_cons_zero, List.set_cons_succ]
  refine wpAnyH_done (by kernel_rfl) ?_ _
  repeat clear hHeld
  have L14 := Lib.hid (L11.out.trans (B2.out.mono L11.out.size))
  have Y14 := Lib.hid (Y11.out.below B2.out)
  have Q14 := Lib.hid (Q11.out.below B2.out)
  have YO14 := Lib.hid (YO11.out.below B2.out)
  clear HKP B2 L11 X11 Y11 P11 Q11 XO11 YO11
  go_upto_region 16 with (fail)
  have keep : ∀ w', Below w13.heap.size w13 w' → Bx w' b8 (vxC y (.slice A6 m p6)) ∧ Bx w' (w.heap.size + 1) (vxC y (.slice A2 m p2)) ∧ Below w13.heap.size w13 w' := fun w' hb => ⟨Q14.out.below hb, Y14.out.below hb, hb⟩
  have HKP := Lib.hid keep
  have B0 := Lib.hid (Below.refl w13.heap.size w13).drew
  clear keep
  refine wp_region_held_drew (S := fun w' => Bx w' b8 (vxC y (.slice A6 m p6)) ∧ Bx w' (w.heap.size + 1) (vxC y (.slice A2 m p2)) ∧ Below w13.heap.size w13 w') (by kernel_rfl) (HKP.out _ B0.out) (fun hHeld => ?_)
  refine wpAnyH_take (i := 0) (oi := ⟨some 40, _, _, _, _, _⟩) rfl (by kernel_rfl) (by kernel_rfl) (by kernel_rfl) (fun _ _ _ h => h) (yields_seg (by kernel_rfl) rfl (by rfl) (fun w h => h.1)) (by assumption) ?_
  try simp only [Act.put, List.setIfInBounds_toArray, List.set_cons_zero, List.set_cons_succ]
  refine wpAnyH_take (i := 1) (oi := ⟨some 41, _, _, _, _, _⟩) rfl (by kernel_rfl) (by kernel_rfl) (by kernel_rfl) (fun _ _ _ h => h) (yields_segL (by kernel_rfl) rfl (by rfl) (fun w h => h.2.1)) (by assumption) ?_
  try simp only [Act.put, List.setIfInBounds_toArray, List.set_cons_zero, List.set_cons_succ]
  refine wpAnyH_ready (rs := [2]) (by kernel_rfl) (by simp) ?_
  refine AllReadyH.cons (o := ⟨some 42, _, _, _, _, _⟩) rfl (fun K hK => ?_) AllReadyH.nil
  go_simp
  (go_at_call 23; refine (toSeg_l y _ m jvs _ (H2.out.below (L14.out.trans (B0.out.mono L14.out.size))) hm1 HNY.out).mono ?_; rintro e w14 ⟨yt2, tvs, rfl, hyo, _, hb⟩; rw [HLY.out] at hyo)
  try go_wp2_with fail
  refine hK.out _ _ ?_ (fun hHeld => ?_)
  · exact HKP.out _ (B0.out.trans (hb.mono B0.out.size))
  clear hK K
  try simp only [Act.put, List.setIfInBounds_toArray, List.set_cons_zero, List.set_cons_succ]
  have B1 := Lib.hid (B0.out.trans (hb.mono B0.out.size))
  have YT := Lib.hid hyo
  clear hb hyo B0
  refine wpAnyH_ready (rs := [3]) (by kernel_rfl) (by simp) ?_
  refine AllReadyH.cons (o := ⟨some 43, _, _, _, _, _⟩) rfl (fun K hK => ?_) AllReadyH.nil
  go_simp
  (go_at_call 25; refine (eqSeg_l y _ _ m _ _ _ (YO14.out.rd.below B1.out) YT.out.rd).mono ?_; rintro e w15 ⟨rfl, hb⟩)
  try go_wp2_with fail
  refine hK.out _ _ ?_ (fun hHeld => ?_)
  · exact HKP.out _ (B1.out.trans (hb.mono B1.out.size))
  clear hK K
  try simp only [Act.put, List.setIfInBounds_toArray, List.set_cons_zero, List.set_cons_succ]
  have B2 := Lib.hid (B1.out.trans (hb.mono B1.out.size))
  clear hb B1 YT
  refine wpAnyH_take (i := 4) (oi := ⟨some 44, _, _, _, _, _⟩) (v := ?_) rfl (by kernel_rfl) (by kernel_rfl) (by kernel_rfl) (fun _ _ _ h => h) (Or.inl ⟨by kernel_rfl, ?_⟩) (by assumption) ?_
  rotate_left
  · (intro w hSw; (try dsimp only at hSw); go_simp; try (with_reducible rfl))
  try simp only [Act.put, List.setIfInBounds_toArray, List.set_cons_zero, List.set_cons_succ]
  refine wpAnyH_done (by kernel_rfl) ?_ _
  repeat clear hHeld
  have L16 := Lib.hid (L14.out.trans (B2.out.mono L14.out.size))
  go_wp2
  go_ret
  exact ⟨rfl, L16.out⟩
end Go.Proofs.Ytkgbkgonlopciaa

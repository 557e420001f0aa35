/- The walk of OptText of the reference. -/
import Derived.Test.YtkgbkgonlopciaaA21
import Derived.Test.YtkgbkgonlopciaaA22
import Derived.Deep.Cut
import Derived.Outline
import Derived.Deep.QuietTactic
import Derived.BigQuiet
import Derived.Deep.RegionHeld
namespace Go.Proofs.Ytkgbkgonlopciaa
open Go.RowKit
set_option linter.unusedVariables false
set_option linter.unusedSimpArgs false
theorem body_full2 {o : OD} (h : optOk o = true) : bodyF o (lay o.k).length ++ bodyI o o.ids.length = bodyL o := by
  rw [← body_full]
  by_cases h8 : o.k = 8
  · have : bodyF o (lay o.k).length = [] := by unfold bodyF; rw [h8]; rfl
    rw [this]; simp
  · unfold optOk at h
    simp only [Bool.and_eq_true] at h
    have : o.ids = [] := by rw [(sameOD_iff _ _).1 h.1.1.2, used_ids h8]
    have e : bodyI o o.ids.length = [] := by unfold bodyI; rw [this]; rfl
    rw [e]; simp
theorem ids_le {o : OD} (h : optOk o = true) : o.ids.length ≤ 8 := by
  unfold optOk at h
  simp only [Bool.and_eq_true, decide_eq_true_eq] at h
  obtain ⟨⟨⟨⟨h1, h10⟩, hs⟩, hi⟩, hf⟩ := h
  by_cases h8 : o.k = 8
  · have : idsOk o.ids = true := by simpa [h8] using hi
    unfold idsOk at this
    simp only [Bool.and_eq_true, decide_eq_true_eq] at this
    omega
  · have : o.ids = [] := by rw [(sameOD_iff _ _).1 hs, used_ids h8]
    rw [this]; simp
set_option maxRecDepth 100000 in
set_option maxHeartbeats 6400000 in
theorem optText_s (o : OD) (A : Option Addr) (n cp : Nat) (w : World) (h : Rd w 1 (.slice A n cp) n (o.ids.map vn)) (hwf : o.wf) :
    Calls Try.prog 37 #[vo o (.slice A n cp)] w fun e w' => e = .returned (.string (str (optL o))) ∧ Below w.heap.size w w' := by
  have HNX := Lib.hid (rd_ids h)
  have H := Lib.hid h
  have HWF := Lib.hid hwf
  clear h hwf
  obtain ⟨R, hR⟩ : ∃ R, R = str (optL o) := ⟨_, rfl⟩
  rw [← hR]
  have HR := Lib.hid hR
  clear hR
  go_enter Try.func37, Try.ntmps37
  go_upto_region 1 with (fail)
  obtain ⟨W, hW⟩ : ∃ W, W = w.alloc (.cells (voC o (.slice A n cp)).toArray 27) := ⟨_, rfl⟩
  change Code.wp _ _ _ _ (w.alloc (.cells (voC o (.slice A n cp)).toArray 27))
  rw [← hW]
  have L0 := Lib.hid ((Below.refl w.heap.size w).alloc (Nat.le_refl _) (.cells (voC o (.slice A n cp)).toArray 27))
  have X1 := Lib.hid (Bx.new w (voC o (.slice A n cp)).toArray 27)
  rw [← hW] at L0 X1
  clear hW
  have HW := Lib.hid (H.out.below L0.out)
  go_wp2_with (refine wpl_opt rfl (by rfl) (by rfl) X1.out ?_)
  refine (optOk_s' o A n cp _ HW.out HWF.out).mono ?_
  rintro e w2 ⟨rfl, hb2⟩
  have L2 := Lib.hid (L0.out.trans (hb2.mono L0.out.size))
  have X2 := Lib.hid (X1.out.below hb2)
  clear hb2 X1 HW L0
  obtain ⟨b, hb⟩ : ∃ b, b = optOk o := ⟨_, rfl⟩
  rw [← hb]
  have HB := Lib.hid hb
  clear hb
  cases b
  case false =>
    have HE : Hid (R = str []) := Lib.hid (by rw [HR.out, optL_no HB.out.symm])
    go_wp2
    go_ret
    exact ⟨ret_str (by rw [HE.out]; rfl), L2.out⟩
  have HOK : Hid (optOk o = true) := Lib.hid HB.out.symm
  clear HB
  have hn8 : n ≤ 8 := by have := ids_le HOK.out; have := HNX.out; omega
  have x0 : w2.cell? ⟨w.heap.size, 0, none⟩ = some (.int .i64 o.k) := X2.out.2 0 _ rfl
  go_wp2_with fail
  refine (shape_s o.k _ (optOk_kR HOK.out)).mono ?_
  rintro e w3 ⟨rfl, hb3⟩
  have L3 := Lib.hid (L2.out.trans (hb3.mono L2.out.size))
  have X3 := Lib.hid (X2.out.below hb3)
  clear hb3 x0 X2 L2
  obtain ⟨s, hs⟩ : ∃ s, s = shp o.k := ⟨_, rfl⟩
  obtain ⟨m, hm⟩ : ∃ m, m = (lay o.k).length := ⟨_, rfl⟩
  have HSS : Hid (s.size = m * 2) := Lib.hid (by rw [hs, hm]; exact shp_size o.k)
  have hm4 : m ≤ 4 := by
    rw [hm]; unfold lay
    repeat' split
    all_goals simp
  rw [← hs]
  have HS := Lib.hid hs
  have HM := Lib.hid hm
  clear hs hm
  go_wp2
  go_loopw [3, 5] (fun b i wr => ∃ (j : Nat) (X : ByteArray), j ≤ m ∧ i = .int .i64 ((j * 2 : Nat) : Int) ∧ b = .string X ∧ X.size ≤ 40 ∧ Hid (X = str (bodyF o j)) ∧ Hid (Bx wr w.heap.size (voC o (.slice A n cp))) ∧ Hid (Below w.heap.size w wr)) (fun _ i _ => m * 2 - (intOf i).toNat)
  case atStart => exact ⟨0, ⟨#[]⟩, Nat.zero_le _, rfl, rfl, by decide, Lib.hid rfl, X3, L3⟩
  case round =>
    clear X3 L3
    obtain ⟨j, X, hj, rfl, rfl, hX, HX, V1, LW⟩ := hrel
    by_cases hlt : j < m
    case neg =>
      obtain rfl : j = m := by omega
      have q2 : ¬ (((j * 2 : Nat) : Int) + 1 < (s.size : Int)) := by have := HSS.out; omega
      have hj8 : j * 2 ≤ 8 := by omega
      have x13 : wr.cell? ⟨w.heap.size, 13, none⟩ = some (.slice A n cp) := V1.out.2 13 _ rfl
      go_wp2
      obtain ⟨wo, rfl⟩ : ∃ wo : World, wo = wr := ⟨_, rfl⟩
      go_loopw [3, 8] (fun b i wr => ∃ (k : Nat) (X : ByteArray), k ≤ n ∧ i = .int .i64 (k : Int) ∧ b = .string X ∧ X.size ≤ 80 ∧ Hid (X = str (bodyF o j ++ bodyI o k)) ∧ Hid (Bx wr w.heap.size (voC o (.slice A n cp))) ∧ Hid (Below w.heap.size w wr)) (fun _ i _ => n - (intOf i).toNat)
      case atStart => exact ⟨0, X, Nat.zero_le _, rfl, rfl, by omega, Lib.hid (by rw [HX.out]; simp [bodyI]), V1, LW⟩
      case round =>
        clear HX hX V1 LW x13
        obtain ⟨k, X, hk, rfl, rfl, hX, HX, V1, LW⟩ := hrel
        have x13 : wr.cell? ⟨w.heap.size, 13, none⟩ = some (.slice A n cp) := V1.out.2 13 _ rfl
        by_cases hlt2 : k < n
        · obtain ⟨b1, o1, _, he, _, _, _⟩ := H.out.full (by omega)
          simp only [Value.slice.injEq] at he
          obtain ⟨rfl, _, rfl⟩ := he
          obtain ⟨_, p1⟩ := (H.out.below LW.out).at1 hlt2
          have hid := wf_id HWF.out k
          have hsz := bodyI_len HOK.out (k + 1)
          have hszf := bodyF_len HOK.out j
          have hstep := bodyI_step (o := o) (j := k) (by have := HNX.out; omega)
          obtain ⟨x, hx⟩ : ∃ x, x = o.ids.getD k 0 := ⟨_, rfl⟩
          rw [← hx] at p1 hid hstep
          obtain ⟨Y, hY⟩ : ∃ Y, Y = str (numTextL x 1) := ⟨_, rfl⟩
          have hYs : Y.size ≤ 1 := by rw [hY, str_size]; have := nt_len_le x 1 (by omega); omega
          have HXY : Hid (X ++ Y = str (bodyF o j ++ bodyI o (k + 1))) := Lib.hid (by rw [HX.out, hY, str_app, hstep, List.append_assoc])
          have hXYs : (X ++ Y).size ≤ 80 := by rw [HXY.out, str_size, List.length_append]; omega
          have HY := Lib.hid hY
          clear hx hY hstep hsz hszf
          go_wp2_with fail
          refine (numText_s x 1 _ hid).mono ?_
          rw [← HY.out]
          rintro e w5 ⟨rfl, hb5⟩
          have L5 := Lib.hid (LW.out.trans (hb5.mono LW.out.size))
          have V5 := Lib.hid (V1.out.below hb5)
          clear hb5 p1 x13
          go_wp2
          go_roundw
          case rel => exact ⟨k + 1, X ++ Y, by omega, by go_num, rfl, hXYs, HXY, V5, L5⟩
          case measure => (simp [intOf]; try omega)
        · obtain rfl : k = n := by omega
          have x0 : wr.cell? ⟨w.heap.size, 0, none⟩ = some (.int .i64 o.k) := V1.out.2 0 _ rfl
          have HBL : Hid (X = str (bodyL o)) := Lib.hid (by rw [HX.out, HM.out, HNX.out, body_full2 HOK.out])
          have hkR := optOk_kR HOK.out
          obtain ⟨Y1, hY1⟩ : ∃ Y, Y = str (numTextL o.k 1) := ⟨_, rfl⟩
          obtain ⟨Y2, hY2⟩ : ∃ Y, Y = str (numTextL (X.size : Int) 1) := ⟨_, rfl⟩
          have hs1 : Y1.size ≤ 1 := by rw [hY1, str_size]; have := nt_len_le o.k 1 (by omega); omega
          have hs2 : Y2.size ≤ 1 := by rw [hY2, str_size]; have := nt_len_le (X.size : Int) 1 (by omega); omega
          have HE : Hid (R = Y1 ++ Y2 ++ X) := Lib.hid (by
            have e : X.size = (bodyL o).length := by rw [HBL.out, str_size]
            rw [HR.out, optL_yes HOK.out, ← str_app, ← str_app, hY1, hY2, e, ← HBL.out])
          have HY1 := Lib.hid hY1
          have HY2 := Lib.hid hY2
          have hs3 : (Y1 ++ Y2).size ≤ 2 := by rw [app_size]; omega
          have HNL : Hid ((X.size : Int) ≤ 9223372036854775807) := Lib.hid (by omega)
          clear hY1 hY2
          go_wp2_with fail
          refine (numText_s o.k 1 _ (by omega)).mono ?_
          rw [← HY1.out]
          rintro e w5 ⟨rfl, hb5⟩
          have L5 := Lib.hid (LW.out.trans (hb5.mono LW.out.size))
          clear hb5 x0 x13
          go_wp2_with fail
          refine (numText_s (X.size : Int) 1 _ HNL.out).mono ?_
          rw [← HY2.out]
          rintro e w6 ⟨rfl, hb6⟩
          have L6 := Lib.hid (L5.out.trans (hb6.mono L5.out.size))
          clear hb6
          go_wp2
          go_ret
          exact ⟨ret_str (by rw [HE.out]), L6.out⟩
    have hfl : j < (lay o.k).length := by have := HM.out; omega
    obtain ⟨h1, h2, e1, e2⟩ := shp_at hfl
    obtain ⟨i1, i12, w1, w20⟩ := lay_at hfl
    have hw := lay_w hfl
    have hflag := lay_flag hfl
    have HST := Lib.hid (bodyF_step hfl)
    have htz := ok_field_txt HOK.out hfl
    have HFLn := Lib.hid (bodyF_len HOK.out (j + 1))
    obtain ⟨⟨i, m2⟩, hf⟩ : ∃ f, f = (lay o.k)[j]'hfl := ⟨_, rfl⟩
    rw [← hf] at i1 i12 w1 w20 e1 e2 hw hflag HST htz
    dsimp only at i1 i12 w1 w20 e1 e2 hw hflag htz
    clear hf hfl
    obtain ⟨p, hp⟩ : ∃ p, p = j * 2 := ⟨_, rfl⟩
    have HPP := Lib.hid hp
    have hp8 : p ≤ 8 := by omega
    have hpb : p < s.size := by have := HSS.out; omega
    have hpb2 : p + 1 < s.size := by have := HSS.out; omega
    have hsb : s.size ≤ 8 := by have := HSS.out; omega
    have q2 : ((p : Int) + 1 < (s.size : Int)) := by omega
    have e3 : s[p]'hpb = ltr i := by
      have h3 := HS.out
      subst h3
      subst hp
      exact e1
    have e4 : s[p + 1]'hpb2 = wsg m2 := by
      have h3 := HS.out
      subst h3
      subst hp
      exact e2
    rw [← hp]
    have HW2 := Lib.hid hw
    have HFG := Lib.hid hflag
    have HTZ := Lib.hid htz
    clear hp e1 e2 hw hflag h1 h2 htz
    have keep : ∀ w', Below wr.drew.heap.size wr.drew w' → Bx w' w.heap.size (voC o (.slice A n cp)) ∧ Below wr.heap.size wr w' := fun w' hb => ⟨V1.out.drew.below hb, (Below.refl _ wr).drew.trans hb⟩
    have HKP := Lib.hid keep
    clear keep
    by_cases c11 : i = 11 ∨ i = 12
    · have HC := Lib.hid c11
      obtain ⟨Y, hY⟩ : ∃ Y, Y = o.txt i := ⟨_, rfl⟩
      have hYs : Y.size ≤ 20 := by rw [hY]; exact HTZ.out c11
      have HXY : Hid (X ++ Y = str (bodyF o (j + 1))) := Lib.hid (by
        have hYL : Y = str (fieldL o (i, m2)) := by unfold fieldL; rw [if_pos c11, str_of, hY]
        rw [HX.out, hYL, str_app, HST.out])
      have hXYs : (X ++ Y).size ≤ 40 := by rw [HXY.out, str_size]; exact HFLn.out
      have HY := Lib.hid hY
      clear c11 hY HST
      go_wp2_with fail
      refine wp_region_held_drew (S := fun w' => Bx w' w.heap.size (voC o (.slice A n cp)) ∧ Below wr.heap.size wr w') (by kernel_rfl) ⟨V1.out.drew, (Below.refl _ wr).drew⟩ (fun hHeld => ?_)
      refine wpAnyH_take (i := 0) rfl (by kernel_rfl) (by kernel_rfl) (by kernel_rfl) (fun _ _ _ h => h) (yields_opt (by kernel_rfl) rfl (by rfl) (fun w h => h.1)) (by assumption) ?_
      try simp only [Act.put, List.setIfInBounds_toArray, List.set_cons_zero, List.set_cons_succ]
      refine wpAnyH_take (i := 1) (v := ?_) rfl (by kernel_rfl) (by kernel_rfl) (by kernel_rfl) (fun _ _ _ h => h) (Or.inl ⟨by rfl, ?_⟩) (by assumption) ?_
      rotate_left
      · (intro w hSw; (try dsimp only at hSw); go_simp; try (with_reducible rfl))
      try simp only [Act.put, List.setIfInBounds_toArray, List.set_cons_zero, List.set_cons_succ]
      refine wpAnyH_take (i := 2) (v := ?_) rfl (by kernel_rfl) (by kernel_rfl) (by kernel_rfl) (fun _ _ _ h => h) (Or.inl ⟨by rfl, ?_⟩) (by assumption) ?_
      rotate_left
      · (intro w hSw; (try dsimp only at hSw); go_simp; try (with_reducible rfl))
      try simp only [Act.put, List.setIfInBounds_toArray, List.set_cons_zero, List.set_cons_succ]
      refine wpAnyH_take (i := 3) (v := ?_) rfl (by kernel_rfl) (by kernel_rfl) (by kernel_rfl) (fun _ _ _ h => h) (Or.inl ⟨by rfl, ?_⟩) (by assumption) ?_
      rotate_left
      · (intro w hSw; (try dsimp only at hSw); go_simp; try (with_reducible rfl))
      try simp only [Act.put, List.setIfInBounds_toArray, List.set_cons_zero, List.set_cons_succ]
      refine wpAnyH_ready (rs := [4]) (by kernel_rfl) (by simp) ?_
      refine AllReadyH.cons rfl (fun K hK => ?_) AllReadyH.nil
      go_simp
      (go_at_call 72; refine (num_s_no o _ i _ HC.out).mono ?_; rintro e W2 ⟨rfl, hb2⟩)
      try go_wp2_with fail
      refine hK.out _ _ ?_ (fun hHeld => ?_)
      · exact HKP.out _ hb2
      clear hK K
      try simp only [Act.put, List.setIfInBounds_toArray, List.set_cons_zero, List.set_cons_succ]
      refine wpAnyH_take (i := 5) (v := ?_) rfl (by kernel_rfl) (by kernel_rfl) (by kernel_rfl) (fun _ _ _ h => h) (Or.inl ⟨by rfl, ?_⟩) (by assumption) ?_
      rotate_left
      · (intro w hSw; (try dsimp only at hSw); go_simp; try (with_reducible rfl))
      try simp only [Act.put, List.setIfInBounds_toArray, List.set_cons_zero, List.set_cons_succ]
      refine wpAnyH_take (i := 6) (v := ?_) rfl (by kernel_rfl) (by kernel_rfl) (by kernel_rfl) (fun _ _ _ h => h) (Or.inl ⟨by rfl, ?_⟩) (by assumption) ?_
      rotate_left
      · (intro w hSw; (try dsimp only at hSw); go_simp; try (with_reducible rfl))
      try simp only [Act.put, List.setIfInBounds_toArray, List.set_cons_zero, List.set_cons_succ]
      refine wpAnyH_take (i := 7) (v := ?_) rfl (by kernel_rfl) (by kernel_rfl) (by kernel_rfl) (fun _ _ _ h => h) (Or.inl ⟨by rfl, ?_⟩) (by assumption) ?_
      rotate_left
      · (intro w hSw; (try dsimp only at hSw); go_simp; try (with_reducible rfl))
      try simp only [Act.put, List.setIfInBounds_toArray, List.set_cons_zero, List.set_cons_succ]
      refine wpAnyH_take (i := 8) (v := ?_) rfl (by kernel_rfl) (by kernel_rfl) (by kernel_rfl) (fun _ _ _ h => h) (Or.inl ⟨by rfl, ?_⟩) (by assumption) ?_
      rotate_left
      · (intro w hSw; (try dsimp only at hSw); go_simp; try (with_reducible rfl))
      try simp only [Act.put, List.setIfInBounds_toArray, List.set_cons_zero, List.set_cons_succ]
      refine wpAnyH_take (i := 9) (v := ?_) rfl (by kernel_rfl) (by kernel_rfl) (by kernel_rfl) (fun _ _ _ h => h) (Or.inl ⟨by rfl, ?_⟩) (by assumption) ?_
      rotate_left
      · (intro w hSw; (try dsimp only at hSw); go_simp; try (with_reducible rfl))
      try simp only [Act.put, List.setIfInBounds_toArray, List.set_cons_zero, List.set_cons_succ]
      refine wpAnyH_done (by kernel_rfl) ?_ _
      have K2 := Lib.hid (HKP.out _ hb2)
      clear hb2
      repeat clear hHeld
      have Z2 := Lib.hid K2.out.1
      have L2 := Lib.hid (LW.out.trans (K2.out.2.mono LW.out.size))
      go_wp2_with fail
      have hcat : ¬ (9223372036854775807 < X.size + Y.size) := by omega
      refine wp_region_held_drew (S := fun w' => Bx w' w.heap.size (voC o (.slice A n cp)) ∧ Below W2.heap.size W2 w') (by kernel_rfl) ⟨Z2.out.drew, (Below.refl _ W2).drew⟩ (fun hHeld => ?_)
      refine wpAnyH_take (i := 0) (v := ?_) rfl (by kernel_rfl) (by kernel_rfl) (by kernel_rfl) (fun _ _ _ h => h) (Or.inl ⟨by rfl, ?_⟩) (by assumption) ?_
      rotate_left
      · (intro w hSw; (try dsimp only at hSw); go_simp; try (with_reducible rfl))
      try simp only [Act.put, List.setIfInBounds_toArray, List.set_cons_zero, List.set_cons_succ]
      refine wpAnyH_take (i := 1) rfl (by kernel_rfl) (by kernel_rfl) (by kernel_rfl) (fun _ _ _ h => h) (yields_opt (by kernel_rfl) rfl (by rfl) (fun w h => h.1)) (by assumption) ?_
      try simp only [Act.put, List.setIfInBounds_toArray, List.set_cons_zero, List.set_cons_succ]
      refine wpAnyH_take (i := 2) (v := ?_) rfl (by kernel_rfl) (by kernel_rfl) (by kernel_rfl) (fun _ _ _ h => h) (Or.inl ⟨by rfl, ?_⟩) (by assumption) ?_
      rotate_left
      · (intro w hSw; (try dsimp only at hSw); go_simp; try (with_reducible rfl))
      try simp only [Act.put, List.setIfInBounds_toArray, List.set_cons_zero, List.set_cons_succ]
      refine wpAnyH_take (i := 3) (v := ?_) rfl (by kernel_rfl) (by kernel_rfl) (by kernel_rfl) (fun _ _ _ h => h) (Or.inl ⟨by rfl, ?_⟩) (by assumption) ?_
      rotate_left
      · (intro w hSw; (try dsimp only at hSw); go_simp; try (with_reducible rfl))
      try simp only [Act.put, List.setIfInBounds_toArray, List.set_cons_zero, List.set_cons_succ]
      refine wpAnyH_take (i := 4) (v := ?_) rfl (by kernel_rfl) (by kernel_rfl) (by kernel_rfl) (fun _ _ _ h => h) (Or.inl ⟨by rfl, ?_⟩) (by assumption) ?_
      rotate_left
      · (intro w hSw; (try dsimp only at hSw); go_simp; try (with_reducible rfl))
      try simp only [Act.put, List.setIfInBounds_toArray, List.set_cons_zero, List.set_cons_succ]
      refine wpAnyH_ready (rs := [5]) (by kernel_rfl) (by simp) ?_
      refine AllReadyH.cons rfl (fun K hK => ?_) AllReadyH.nil
      go_simp
      (go_at_call 75; refine (text_s o _ i _ HC.out).mono ?_; rw [← HY.out]; rintro e w7 ⟨rfl, hb7⟩)
      try go_wp2_with fail
      refine hK.out _ _ ?_ (fun hHeld => ?_)
      · exact ⟨Z2.out.drew.below hb7, (Below.refl _ W2).drew.trans hb7⟩
      clear hK K
      try simp only [Act.put, List.setIfInBounds_toArray, List.set_cons_zero, List.set_cons_succ]
      refine wpAnyH_take (i := 6) (v := ?_) rfl (by kernel_rfl) (by kernel_rfl) (by kernel_rfl) (fun _ _ _ h => h) (Or.inl ⟨by rfl, ?_⟩) (by assumption) ?_
      rotate_left
      · (intro w hSw; (try dsimp only at hSw); go_simp; try (with_reducible rfl))
      try simp only [Act.put, List.setIfInBounds_toArray, List.set_cons_zero, List.set_cons_succ]
      refine wpAnyH_take (i := 7) (v := ?_) rfl (by kernel_rfl) (by kernel_rfl) (by kernel_rfl) (fun _ _ _ h => h) (Or.inl ⟨by rfl, ?_⟩) (by assumption) ?_
      rotate_left
      · (intro w hSw; (try dsimp only at hSw); go_simp; try (with_reducible rfl))
      try simp only [Act.put, List.setIfInBounds_toArray, List.set_cons_zero, List.set_cons_succ]
      refine wpAnyH_done (by kernel_rfl) ?_ _
      have L7 := Lib.hid (L2.out.trans (((Below.refl W2.heap.size W2).drew.trans hb7).mono L2.out.size))
      have Z7 := Lib.hid (Z2.out.drew.below hb7)
      clear hb7
      repeat clear hHeld
      go_wp2
      go_roundw
      case rel => exact ⟨j + 1, X ++ Y, by omega, by rw [show (j + 1) * 2 = p + 2 by have := HPP.out; omega]; go_num, rfl, hXYs, HXY, Z7, L7⟩
      case measure => (have := HPP.out; simp [intOf]; try omega)
    · have i10 : i ≤ 10 := by omega
      have hnum := wf_num HWF.out i
      obtain ⟨Y, hY⟩ : ∃ Y, Y = str (numTextL (o.num i) m2) := ⟨_, rfl⟩
      have hYs : Y.size ≤ 20 := by rw [hY, str_size]; have := nt_len_le (o.num i) m2 (by omega); omega
      have HXY : Hid (X ++ Y = str (bodyF o (j + 1))) := Lib.hid (by
        have hYL : Y = str (fieldL o (i, m2)) := by unfold fieldL; rw [if_neg c11, hY]
        rw [HX.out, hYL, str_app, HST.out])
      have hXYs : (X ++ Y).size ≤ 40 := by rw [HXY.out, str_size]; exact HFLn.out
      have HY := Lib.hid hY
      clear c11 hY HST
      go_wp2_with fail
      refine wp_region_held_drew (S := fun w' => Bx w' w.heap.size (voC o (.slice A n cp)) ∧ Below wr.heap.size wr w') (by kernel_rfl) ⟨V1.out.drew, (Below.refl _ wr).drew⟩ (fun hHeld => ?_)
      refine wpAnyH_take (i := 0) rfl (by kernel_rfl) (by kernel_rfl) (by kernel_rfl) (fun _ _ _ h => h) (yields_opt (by kernel_rfl) rfl (by rfl) (fun w h => h.1)) (by assumption) ?_
      try simp only [Act.put, List.setIfInBounds_toArray, List.set_cons_zero, List.set_cons_succ]
      refine wpAnyH_take (i := 1) (v := ?_) rfl (by kernel_rfl) (by kernel_rfl) (by kernel_rfl) (fun _ _ _ h => h) (Or.inl ⟨by rfl, ?_⟩) (by assumption) ?_
      rotate_left
      · (intro w hSw; (try dsimp only at hSw); go_simp; try (with_reducible rfl))
      try simp only [Act.put, List.setIfInBounds_toArray, List.set_cons_zero, List.set_cons_succ]
      refine wpAnyH_take (i := 2) (v := ?_) rfl (by kernel_rfl) (by kernel_rfl) (by kernel_rfl) (fun _ _ _ h => h) (Or.inl ⟨by rfl, ?_⟩) (by assumption) ?_
      rotate_left
      · (intro w hSw; (try dsimp only at hSw); go_simp; try (with_reducible rfl))
      try simp only [Act.put, List.setIfInBounds_toArray, List.set_cons_zero, List.set_cons_succ]
      refine wpAnyH_take (i := 3) (v := ?_) rfl (by kernel_rfl) (by kernel_rfl) (by kernel_rfl) (fun _ _ _ h => h) (Or.inl ⟨by rfl, ?_⟩) (by assumption) ?_
      rotate_left
      · (intro w hSw; (try dsimp only at hSw); go_simp; try (with_reducible rfl))
      try simp only [Act.put, List.setIfInBounds_toArray, List.set_cons_zero, List.set_cons_succ]
      refine wpAnyH_ready (rs := [4]) (by kernel_rfl) (by simp) ?_
      refine AllReadyH.cons rfl (fun K hK => ?_) AllReadyH.nil
      go_simp
      (go_at_call 72; refine (num_s o _ i _ i1 i10).mono ?_; rintro e W2 ⟨rfl, hb2⟩)
      try go_wp2_with fail
      refine hK.out _ _ ?_ (fun hHeld => ?_)
      · exact HKP.out _ hb2
      clear hK K
      try simp only [Act.put, List.setIfInBounds_toArray, List.set_cons_zero, List.set_cons_succ]
      refine wpAnyH_take (i := 5) (v := ?_) rfl (by kernel_rfl) (by kernel_rfl) (by kernel_rfl) (fun _ _ _ h => h) (Or.inl ⟨by rfl, ?_⟩) (by assumption) ?_
      rotate_left
      · (intro w hSw; (try dsimp only at hSw); go_simp; try (with_reducible rfl))
      try simp only [Act.put, List.setIfInBounds_toArray, List.set_cons_zero, List.set_cons_succ]
      refine wpAnyH_take (i := 6) (v := ?_) rfl (by kernel_rfl) (by kernel_rfl) (by kernel_rfl) (fun _ _ _ h => h) (Or.inl ⟨by rfl, ?_⟩) (by assumption) ?_
      rotate_left
      · (intro w hSw; (try dsimp only at hSw); go_simp; try (with_reducible rfl))
      try simp only [Act.put, List.setIfInBounds_toArray, List.set_cons_zero, List.set_cons_succ]
      refine wpAnyH_take (i := 7) (v := ?_) rfl (by kernel_rfl) (by kernel_rfl) (by kernel_rfl) (fun _ _ _ h => h) (Or.inl ⟨by rfl, ?_⟩) (by assumption) ?_
      rotate_left
      · (intro w hSw; (try dsimp only at hSw); go_simp; try (with_reducible rfl))
      try simp only [Act.put, List.setIfInBounds_toArray, List.set_cons_zero, List.set_cons_succ]
      refine wpAnyH_take (i := 8) (v := ?_) rfl (by kernel_rfl) (by kernel_rfl) (by kernel_rfl) (fun _ _ _ h => h) (Or.inl ⟨by rfl, ?_⟩) (by assumption) ?_
      rotate_left
      · (intro w hSw; (try dsimp only at hSw); go_simp; try (with_reducible rfl))
      try simp only [Act.put, List.setIfInBounds_toArray, List.set_cons_zero, List.set_cons_succ]
      refine wpAnyH_take (i := 9) (v := ?_) rfl (by kernel_rfl) (by kernel_rfl) (by kernel_rfl) (fun _ _ _ h => h) (Or.inl ⟨by rfl, ?_⟩) (by assumption) ?_
      rotate_left
      · (intro w hSw; (try dsimp only at hSw); go_simp; try (with_reducible rfl))
      try simp only [Act.put, List.setIfInBounds_toArray, List.set_cons_zero, List.set_cons_succ]
      refine wpAnyH_done (by kernel_rfl) ?_ _
      have K2 := Lib.hid (HKP.out _ hb2)
      clear hb2
      repeat clear hHeld
      have Z2 := Lib.hid K2.out.1
      have L2 := Lib.hid (LW.out.trans (K2.out.2.mono LW.out.size))
      go_wp2_with fail
      refine (wide_s m2 _ HW2.out).mono ?_
      rintro e w6 ⟨rfl, rfl⟩
      go_wp2_with fail
      refine (numText_s (o.num i) m2 _ hnum).mono ?_
      rw [← HY.out]
      rintro e w7 ⟨rfl, hb7⟩
      have L7 := Lib.hid (L2.out.trans (hb7.mono L2.out.size))
      have Z7 := Lib.hid (Z2.out.below hb7)
      clear hb7
      go_wp2
      go_roundw
      case rel => exact ⟨j + 1, X ++ Y, by omega, by rw [show (j + 1) * 2 = p + 2 by have := HPP.out; omega]; go_num, rfl, hXYs, HXY, Z7, L7⟩
      case measure => (have := HPP.out; simp [intOf]; try omega)
end Go.Proofs.Ytkgbkgonlopciaa

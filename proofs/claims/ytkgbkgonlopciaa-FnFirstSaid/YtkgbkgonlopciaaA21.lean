/- The walk of the reference's OptOk. -/
import Derived.Test.YtkgbkgonlopciaaA20
import Derived.Deep.Cut
import Derived.Outline
import Derived.Deep.QuietTactic
import Derived.BigQuiet
import Derived.Deep.RegionHeld
namespace Go.Proofs.Ytkgbkgonlopciaa
open Go.RowKit
set_option linter.unusedVariables false
set_option linter.unusedSimpArgs false
theorem lay_flag {k : Int} {j : Nat} (h : j < (lay k).length) (h10 : ((lay k)[j]'h).1 = 10) : ((lay k)[j]'h).2 = 1 := (lay_ok k _ (List.getElem_mem h)).2.1 h10
theorem fieldOk_num {o : OD} {i m : Nat} (h : ¬ (i = 11 ∨ i = 12)) (hf : i = 10 → m = 1) : fieldOk o (i, m) = numTextB (o.num i) m := by
  unfold fieldOk
  by_cases h10 : i = 10
  · subst h10
    rw [hf rfl]
    show true = numTextB (if o.fl then 1 else 0) 1
    cases o.fl <;> decide
  · rw [if_neg h10, if_neg h]
theorem fieldOk_txt {o : OD} {i m : Nat} (h : i = 11 ∨ i = 12) : fieldOk o (i, m) = decide ((o.txt i).size = m) := by
  unfold fieldOk
  rw [if_neg (by omega), if_pos h]
set_option maxRecDepth 100000 in
set_option maxHeartbeats 6400000 in
theorem optOk_s' (o : OD) (A : Option Addr) (n cp : Nat) (w : World) (h : Rd w 1 (.slice A n cp) n (o.ids.map vn)) (hwf : o.wf) :
    Calls Try.prog 35 #[vo o (.slice A n cp)] w fun e w' => e = .returned (.bool (optOk o)) ∧ Below w.heap.size w w' := by
  have HNX := Lib.hid (rd_ids h)
  obtain ⟨_, _, hs2, hmx⟩ := h.shape
  unfold maxLen at hmx
  clear hs2
  have H := Lib.hid h
  have HWF := Lib.hid hwf
  clear h hwf
  obtain ⟨r, hr⟩ : ∃ r, r = optOk o := ⟨_, rfl⟩
  rw [← hr]
  have HR := Lib.hid hr
  clear hr
  go_enter Try.func35, Try.ntmps35
  go_upto_region 1 with (fail)
  obtain ⟨W, hW⟩ : ∃ W, W = w.alloc (.cells (voC o (.slice A n cp)).toArray 27) := ⟨_, rfl⟩
  change Code.wp _ _ _ _ (w.alloc (.cells (voC o (.slice A n cp)).toArray 27))
  rw [← hW]
  have L0 := Lib.hid ((Below.refl w.heap.size w).alloc (Nat.le_refl _) (.cells (voC o (.slice A n cp)).toArray 27))
  have X1 := Lib.hid (Bx.new w (voC o (.slice A n cp)).toArray 27)
  rw [← hW] at L0 X1
  clear hW
  have x0 : W.cell? ⟨w.heap.size, 0, none⟩ = some (.int .i64 o.k) := X1.out.2 0 _ rfl
  by_cases ck : 1 ≤ o.k ∧ o.k ≤ 10
  case neg =>
    have CK : Hid ((decide (1 ≤ o.k) && decide (o.k ≤ 10)) = false) := Lib.hid (by simpa using ck)
    have HB : Hid (r = false) := Lib.hid (HR.out.trans (optOk_k ck))
    clear ck
    go_wp2_with fail
    refine (within_s o.k 1 10 _).mono ?_
    rw [CK.out]
    rintro e w2 ⟨rfl, rfl⟩
    go_wp2
    go_ret
    exact ⟨ret_bool HB.out.symm, L0.out⟩
  have CK : Hid ((decide (1 ≤ o.k) && decide (o.k ≤ 10)) = true) := Lib.hid (by simpa using ck)
  have HCK := Lib.hid ck
  clear ck
  go_wp2_with fail
  refine (within_s o.k 1 10 _).mono ?_
  rw [CK.out]
  rintro e w2 ⟨rfl, rfl⟩
  go_wp2_with fail
  refine (shape_s o.k _ HCK.out).mono ?_
  rintro e w3 ⟨rfl, hb3⟩
  have L3 := Lib.hid (L0.out.trans (hb3.mono L0.out.size))
  have X3 := Lib.hid (X1.out.below hb3)
  clear hb3 x0 X1
  obtain ⟨s, hs⟩ : ∃ s, s = shp o.k := ⟨_, rfl⟩
  obtain ⟨m, hm⟩ : ∃ m, m = (lay o.k).length := ⟨_, rfl⟩
  have HSS : Hid (s.size = m * 2) := Lib.hid (by rw [hs, hm]; exact shp_size o.k)
  have hm4 : m ≤ 4 := by
    rw [hm]; unfold lay
    repeat' split
    all_goals simp
  rw [← hs]
  have HS := Lib.hid hs
  have HM := Lib.hid hm
  clear hs hm
  have H3 := Lib.hid (H.out.below L3.out)
  go_wp2_with (refine wpl_opt rfl (by rfl) (by rfl) X3.out ?_)
  rw [HS.out]
  refine (rest_s o A n cp _ H3.out).mono ?_
  rw [← HS.out]
  rintro e w4 ⟨rfl, hb4⟩
  have L4 := Lib.hid (L3.out.trans (hb4.mono L3.out.size))
  have X4 := Lib.hid (X3.out.below hb4)
  have H4 := Lib.hid (H3.out.below hb4)
  clear hb4 X3 H3
  obtain ⟨rb, hrb⟩ : ∃ rb, rb = restB o := ⟨_, rfl⟩
  rw [← hrb]
  have HRB := Lib.hid hrb
  clear hrb
  cases rb
  case true =>
    have HB : Hid (r = false) := Lib.hid (HR.out.trans (sOk_rest HCK.out HRB.out.symm))
    go_wp2
    go_ret
    exact ⟨ret_bool HB.out.symm, L4.out⟩
  have HR0 : Hid (restB o = false) := Lib.hid HRB.out.symm
  clear HRB
  have x0 : w4.cell? ⟨w.heap.size, 0, none⟩ = some (.int .i64 o.k) := X4.out.2 0 _ rfl
  have x13 : w4.cell? ⟨w.heap.size, 13, none⟩ = some (.slice A n cp) := X4.out.2 13 _ rfl
  by_cases c8 : o.k = 8 ∧ ¬ (1 ≤ n ∧ n ≤ 8)
  · obtain ⟨h8, c1⟩ := c8
    have q1 : (o.k == 8) = true := by simp [h8]
    have HB : Hid (r = false) := Lib.hid (HR.out.trans (sOk_len HCK.out HR0.out h8 (by rw [← HNX.out]; exact c1)))
    have C1 : Hid ((decide (1 ≤ (n : Int)) && decide ((n : Int) ≤ 8)) = false) := Lib.hid (by
      by_cases e : 1 ≤ n
      · have e3 : ¬ (n : Int) ≤ 8 := fun e2 => c1 ⟨e, by omega⟩
        simp [e3]
      · have e3 : ¬ 1 ≤ (n : Int) := by omega
        simp [e3])
    clear h8 c1
    go_wp2_with fail
    refine (within_s (n : Int) 1 8 _).mono ?_
    rw [C1.out]
    rintro e w5 ⟨rfl, rfl⟩
    go_wp2
    go_ret
    exact ⟨ret_bool HB.out.symm, L4.out⟩
  have H8 : Hid (o.k = 8 → 1 ≤ o.ids.length ∧ o.ids.length ≤ 8) := Lib.hid (fun e => by
    rw [← HNX.out]
    by_cases e2 : 1 ≤ n ∧ n ≤ 8
    · exact e2
    · exact absurd ⟨e, e2⟩ c8)
  have C8 : Hid (o.k = 8 → (decide (1 ≤ (n : Int)) && decide ((n : Int) ≤ 8)) = true) := Lib.hid (fun e => by
    have h := H8.out e
    rw [← HNX.out] at h
    have e1 : 1 ≤ (n : Int) := by omega
    have e2 : (n : Int) ≤ 8 := by omega
    simp [e1, e2])
  clear c8
  by_cases h8 : o.k = 8
  · have q1 : (o.k == 8) = true := by simp [h8]
    have C1 := Lib.hid (C8.out h8)
    have m0 : m = 0 := by rw [HM.out, h8]; rfl
    subst m0
    have HL0 : Hid ((lay o.k).length = 0) := Lib.hid HM.out.symm
    have hs0 : s.size = 0 := by have := HSS.out; omega
    have HS0 := Lib.hid hs0
    clear h8 hs0
    go_wp2_with fail
    refine (within_s (n : Int) 1 8 _).mono ?_
    rw [C1.out]
    rintro e w5 ⟨rfl, rfl⟩
    go_wp2
    go_loopw [4] (fun i wr => i = .int .i64 0 ∧ wr = w4) (fun i _ => 0)
    case atStart => exact ⟨rfl, rfl⟩
    case round =>
      obtain ⟨rfl, rfl⟩ := hrel
      have q2 : ¬ (1 < (s.size : Int)) := by have := HS0.out; omega
      have q3 : s.size ≤ 1 := by have := HS0.out; omega
      go_wp2
      obtain ⟨wo, rfl⟩ : ∃ wo : World, wo = wr := ⟨_, rfl⟩
      clear q2 q3 x0
      go_loopw [8] (fun i wr => ∃ k q : Nat, k ≤ n ∧ i = .int .i64 (k : Int) ∧ Hid (∀ j, j < k → (decide (0 ≤ o.ids.getD j 0) && decide (o.ids.getD j 0 ≤ 255)) = true ∧ (0 < j → o.ids.getD (j - 1) 0 < o.ids.getD j 0)) ∧ wr = wo.drewN q) (fun i _ => n - (intOf i).toNat)
      case atStart => exact ⟨0, 0, Nat.zero_le _, rfl, Lib.hid (fun j hj => by omega), rfl⟩
      case round =>
        obtain ⟨k, q, hk, rfl, HP, rfl⟩ := hrel
        by_cases hlt : k < n
        case neg =>
          obtain rfl : k = n := by omega
          have HB : Hid (r = true) := Lib.hid (HR.out.trans (sOk_yes HCK.out HR0.out H8.out (fun j hj => by have := HL0.out; omega) (idsAll_yes (fun j hj => (HP.out j (by have := HNX.out; omega)).1) (fun j hj => by have := (HP.out (j + 1) (by have := HNX.out; omega)).2 (by omega); simpa using this))))
          go_wp2
          go_ret
          exact ⟨ret_bool HB.out.symm, below_drewN L4.out _⟩
        obtain ⟨b1, o1, _, he, _, _, _⟩ := H.out.full (by omega)
        simp only [Value.slice.injEq] at he
        obtain ⟨rfl, _, rfl⟩ := he
        obtain ⟨_, p1⟩ := H4.out.at1 hlt
        obtain ⟨x, hx⟩ : ∃ x, x = o.ids.getD k 0 := ⟨_, rfl⟩
        rw [← hx] at p1
        by_cases cx : (decide (0 ≤ x) && decide (x ≤ 255)) = true
        case neg =>
          have CX : Hid ((decide (0 ≤ x) && decide (x ≤ 255)) = false) := Lib.hid (by simpa using cx)
          have HB : Hid (r = false) := Lib.hid (HR.out.trans (sOk_ids HCK.out HR0.out (idsAll_no1 (k := k) (by have := HNX.out; omega) (by rw [← hx]; exact CX.out))))
          clear hx cx
          go_wp2_with fail
          go_quiet ((go_at_call 69; exact (within_s _ _ _ _).mono fun _ _ ⟨h1, h2⟩ => ⟨h1.trans (by rw [CX.out]), _, h2.symm⟩))
          go_wp2
          go_ret
          exact ⟨ret_bool HB.out.symm, below_drewN (below_drewN L4.out _) _⟩
        have CX := Lib.hid cx
        clear cx
        rcases Nat.eq_zero_or_pos k with hk0 | hk0
        · have HP2 : Hid (∀ j, j < k + 1 → (decide (0 ≤ o.ids.getD j 0) && decide (o.ids.getD j 0 ≤ 255)) = true ∧ (0 < j → o.ids.getD (j - 1) 0 < o.ids.getD j 0)) := Lib.hid (fun j hj => by
            have e : j = k := by omega
            subst e
            exact ⟨by rw [← hx]; exact CX.out, fun h => by omega⟩)
          have q0 : decide ((0 : Int) < (k : Int)) = false := by simp; omega
          have q3 : decide (0 < k) = false := by simp; omega
          clear hx hk0
          go_wp2_with fail
          go_quiet ((go_at_call 69; exact (within_s _ _ _ _).mono fun _ _ ⟨h1, h2⟩ => ⟨h1.trans (by rw [CX.out]), _, h2.symm⟩))
          go_wp2
          go_roundw
          case rel => exact ⟨k + 1, _, by omega, by go_num, HP2, rfl⟩
          case measure => (simp [intOf]; try omega)
        · obtain ⟨k1, rfl⟩ : ∃ k1, k = k1 + 1 := ⟨k - 1, by omega⟩
          obtain ⟨_, p2⟩ := H4.out.at1 (show k1 < n by omega)
          obtain ⟨y, hy⟩ : ∃ x, x = o.ids.getD k1 0 := ⟨_, rfl⟩
          rw [← hy] at p2
          have q2 : (0 : Int) < ((k1 : Int) + 1) := by omega
          have q4 : IntKind.i64.wrap (k1 : Int) = (k1 : Int) := IntWalk.i64_in _ (by omega)
          have q5 : (k1 : Int) < (n : Int) := by omega
          by_cases cy : y < x
          · have HP2 : Hid (∀ j, j < k1 + 1 + 1 → (decide (0 ≤ o.ids.getD j 0) && decide (o.ids.getD j 0 ≤ 255)) = true ∧ (0 < j → o.ids.getD (j - 1) 0 < o.ids.getD j 0)) := Lib.hid (fun j hj => by
              by_cases e : j = k1 + 1
              · subst e
                refine ⟨by rw [← hx]; exact CX.out, fun _ => ?_⟩
                rw [Nat.add_sub_cancel, ← hx, ← hy]; exact cy
              · exact HP.out j (by omega))
            clear hx hy
            go_wp2_with fail
            go_quiet ((go_at_call 69; exact (within_s _ _ _ _).mono fun _ _ ⟨h1, h2⟩ => ⟨h1.trans (by rw [CX.out]), _, h2.symm⟩))
            go_wp2
            go_roundw
            case rel => exact ⟨k1 + 1 + 1, _, by omega, by go_num, HP2, rfl⟩
            case measure => (simp [intOf]; try omega)
          · have HB : Hid (r = false) := Lib.hid (HR.out.trans (sOk_ids HCK.out HR0.out (idsAll_no2 (k := k1) (by have := HNX.out; omega) (by rw [← hx, ← hy]; exact cy))))
            clear hx hy
            go_wp2_with fail
            go_quiet ((go_at_call 69; exact (within_s _ _ _ _).mono fun _ _ ⟨h1, h2⟩ => ⟨h1.trans (by rw [CX.out]), _, h2.symm⟩))
            go_wp2
            go_ret
            exact ⟨ret_bool HB.out.symm, below_drewN (below_drewN L4.out _) _⟩
  · have q1 : (o.k == 8) = false := by simp [h8]
    have hids : o.ids = [] := by rw [(sameOD_iff _ _).1 (sOk_same HCK.out HR0.out), used_ids h8]
    have n0 : n = 0 := by rw [HNX.out, hids]; rfl
    subst n0
    have HI : Hid (idsAll o.ids = true) := Lib.hid (by rw [hids]; rfl)
    have HE : Hid ((∀ j (hj : j < (lay o.k).length), fieldOk o ((lay o.k)[j]'hj) = true) → r = true) := Lib.hid (fun hf => HR.out.trans (sOk_yes HCK.out HR0.out H8.out hf HI.out))
    clear h8 hids
    go_wp2
    go_loopw [4] (fun i wr => ∃ j : Nat, j ≤ m ∧ i = .int .i64 ((j * 2 : Nat) : Int) ∧ Hid (∀ j' (hj : j' < (lay o.k).length), j' < j → fieldOk o ((lay o.k)[j']'hj) = true) ∧ Hid (Bx wr w.heap.size (voC o (.slice A 0 cp))) ∧ Hid (Below w.heap.size w wr)) (fun i _ => m * 2 - (intOf i).toNat)
    case atStart => exact ⟨0, Nat.zero_le _, rfl, Lib.hid (fun j' _ h => by omega), X4, L4⟩
    case round =>
      clear X4 L4 H4 x0 x13
      obtain ⟨j, hj, rfl, HP, V1, LW⟩ := hrel
      have x13 : wr.cell? ⟨w.heap.size, 13, none⟩ = some (.slice A 0 cp) := V1.out.2 13 _ rfl
      by_cases hlt : j < m
      case neg =>
        obtain rfl : j = m := by omega
        have HB : Hid (r = true) := Lib.hid (HE.out (fun j' hj' => HP.out j' hj' (by have := HM.out; omega)))
        have q2 : ¬ (((j * 2 : Nat) : Int) + 1 < (s.size : Int)) := by have := HSS.out; omega
        have hj8 : j * 2 ≤ 8 := by omega
        go_wp2
        obtain ⟨wo, rfl⟩ : ∃ wo : World, wo = wr := ⟨_, rfl⟩
        go_loopw [8] (fun i wr => i = .int .i64 0 ∧ wr = wo) (fun i _ => 0)
        case atStart => exact ⟨rfl, rfl⟩
        case round =>
          obtain ⟨rfl, rfl⟩ := hrel
          go_wp2
          go_ret
          exact ⟨ret_bool HB.out.symm, LW.out⟩
      have hfl : j < (lay o.k).length := by have := HM.out; omega
      obtain ⟨h1, h2, e1, e2⟩ := shp_at hfl
      obtain ⟨i1, i12, w1, w20⟩ := lay_at hfl
      have hw := lay_w hfl
      have hflag := lay_flag hfl
      have HNO : Hid (fieldOk o ((lay o.k)[j]'hfl) = false → r = false) := Lib.hid (fun h => HR.out.trans (sOk_field HCK.out HR0.out hfl h))
      have HYES : Hid (fieldOk o ((lay o.k)[j]'hfl) = true → ∀ j' (hj : j' < (lay o.k).length), j' < j + 1 → fieldOk o ((lay o.k)[j']'hj) = true) := Lib.hid (fun h j' hj' hlt' => by
        by_cases e : j' = j
        · subst e; exact h
        · exact HP.out j' hj' (by omega))
      obtain ⟨⟨i, m2⟩, hf⟩ : ∃ f, f = (lay o.k)[j]'hfl := ⟨_, rfl⟩
      rw [← hf] at i1 i12 w1 w20 e1 e2 hw hflag HNO HYES
      dsimp only at i1 i12 w1 w20 e1 e2 hw hflag
      clear hf hfl
      obtain ⟨p, hp⟩ : ∃ p, p = j * 2 := ⟨_, rfl⟩
      have HPP := Lib.hid hp
      have hp8 : p ≤ 8 := by omega
      have hpb : p < s.size := by have := HSS.out; omega
      have hpb2 : p + 1 < s.size := by have := HSS.out; omega
      have hsb : s.size ≤ 8 := by have := HSS.out; omega
      have q2 : ((p : Int) + 1 < (s.size : Int)) := by omega
      have e3 : s[p]'hpb = ltr i := by
        have h3 := HS.out
        subst h3
        subst hp
        exact e1
      have e4 : s[p + 1]'hpb2 = wsg m2 := by
        have h3 := HS.out
        subst h3
        subst hp
        exact e2
      rw [← hp]
      have HW2 := Lib.hid hw
      have HFL := Lib.hid hflag
      clear hp e1 e2 hw hflag h1 h2
      have keep : ∀ w', Below wr.drew.heap.size wr.drew w' → Bx w' w.heap.size (voC o (.slice A 0 cp)) ∧ Below wr.heap.size wr w' := fun w' hb => ⟨V1.out.drew.below hb, (Below.refl _ wr).drew.trans hb⟩
      have HKP := Lib.hid keep
      clear keep
      by_cases c11 : i = 11 ∨ i = 12
      · have hfo : fieldOk o (i, m2) = decide ((o.txt i).size = m2) := fieldOk_txt c11
        have HFO := Lib.hid hfo
        have HC := Lib.hid c11
        have hts := wf_txt HWF.out i
        clear hfo c11
        go_wp2_with fail
        refine wp_region_held_drew (S := fun w' => Bx w' w.heap.size (voC o (.slice A 0 cp)) ∧ Below wr.heap.size wr w') (by kernel_rfl) ⟨V1.out.drew, (Below.refl _ wr).drew⟩ (fun hHeld => ?_)
        refine wpAnyH_take (i := 0) rfl (by kernel_rfl) (by kernel_rfl) (by kernel_rfl) (fun _ _ _ h => h) (yields_opt (by kernel_rfl) rfl (by rfl) (fun w h => h.1)) (by assumption) ?_
        try simp only [Act.put, List.setIfInBounds_toArray, List.set_cons_zero, List.set_cons_succ]
        refine wpAnyH_take (i := 1) (v := ?_) rfl (by kernel_rfl) (by kernel_rfl) (by kernel_rfl) (fun _ _ _ h => h) (Or.inl ⟨by rfl, ?_⟩) (by assumption) ?_
        rotate_left
        · (intro w hSw; (try dsimp only at hSw); go_simp; try (with_reducible rfl))
        try simp only [Act.put, List.setIfInBounds_toArray, List.set_cons_zero, List.set_cons_succ]
        refine wpAnyH_take (i := 2) (v := ?_) rfl (by kernel_rfl) (by kernel_rfl) (by kernel_rfl) (fun _ _ _ h => h) (Or.inl ⟨by rfl, ?_⟩) (by assumption) ?_
        rotate_left
        · (intro w hSw; (try dsimp only at hSw); go_simp; try (with_reducible rfl))
        try simp only [Act.put, List.setIfInBounds_toArray, List.set_cons_zero, List.set_cons_succ]
        refine wpAnyH_take (i := 3) (v := ?_) rfl (by kernel_rfl) (by kernel_rfl) (by kernel_rfl) (fun _ _ _ h => h) (Or.inl ⟨by rfl, ?_⟩) (by assumption) ?_
        rotate_left
        · (intro w hSw; (try dsimp only at hSw); go_simp; try (with_reducible rfl))
        try simp only [Act.put, List.setIfInBounds_toArray, List.set_cons_zero, List.set_cons_succ]
        refine wpAnyH_ready (rs := [4]) (by kernel_rfl) (by simp) ?_
        refine AllReadyH.cons rfl (fun K hK => ?_) AllReadyH.nil
        go_simp
        (go_at_call 72; refine (num_s_no o _ i _ HC.out).mono ?_; rintro e W2 ⟨rfl, hb2⟩)
        try go_wp2_with fail
        refine hK.out _ _ ?_ (fun hHeld => ?_)
        · exact HKP.out _ hb2
        clear hK K
        try simp only [Act.put, List.setIfInBounds_toArray, List.set_cons_zero, List.set_cons_succ]
        refine wpAnyH_take (i := 5) (v := ?_) rfl (by kernel_rfl) (by kernel_rfl) (by kernel_rfl) (fun _ _ _ h => h) (Or.inl ⟨by rfl, ?_⟩) (by assumption) ?_
        rotate_left
        · (intro w hSw; (try dsimp only at hSw); go_simp; try (with_reducible rfl))
        try simp only [Act.put, List.setIfInBounds_toArray, List.set_cons_zero, List.set_cons_succ]
        refine wpAnyH_take (i := 6) (v := ?_) rfl (by kernel_rfl) (by kernel_rfl) (by kernel_rfl) (fun _ _ _ h => h) (Or.inl ⟨by rfl, ?_⟩) (by assumption) ?_
        rotate_left
        · (intro w hSw; (try dsimp only at hSw); go_simp; try (with_reducible rfl))
        try simp only [Act.put, List.setIfInBounds_toArray, List.set_cons_zero, List.set_cons_succ]
        refine wpAnyH_take (i := 7) (v := ?_) rfl (by kernel_rfl) (by kernel_rfl) (by kernel_rfl) (fun _ _ _ h => h) (Or.inl ⟨by rfl, ?_⟩) (by assumption) ?_
        rotate_left
        · (intro w hSw; (try dsimp only at hSw); go_simp; try (with_reducible rfl))
        try simp only [Act.put, List.setIfInBounds_toArray, List.set_cons_zero, List.set_cons_succ]
        refine wpAnyH_take (i := 8) (v := ?_) rfl (by kernel_rfl) (by kernel_rfl) (by kernel_rfl) (fun _ _ _ h => h) (Or.inl ⟨by rfl, ?_⟩) (by assumption) ?_
        rotate_left
        · (intro w hSw; (try dsimp only at hSw); go_simp; try (with_reducible rfl))
        try simp only [Act.put, List.setIfInBounds_toArray, List.set_cons_zero, List.set_cons_succ]
        refine wpAnyH_take (i := 9) (v := ?_) rfl (by kernel_rfl) (by kernel_rfl) (by kernel_rfl) (fun _ _ _ h => h) (Or.inl ⟨by rfl, ?_⟩) (by assumption) ?_
        rotate_left
        · (intro w hSw; (try dsimp only at hSw); go_simp; try (with_reducible rfl))
        try simp only [Act.put, List.setIfInBounds_toArray, List.set_cons_zero, List.set_cons_succ]
        refine wpAnyH_done (by kernel_rfl) ?_ _
        have K2 := Lib.hid (HKP.out _ hb2)
        clear hb2 x13
        repeat clear hHeld
        have Z2 := Lib.hid K2.out.1
        have L2 := Lib.hid (LW.out.trans (K2.out.2.mono LW.out.size))
        go_wp2_with fail
        refine (wide_s m2 _ HW2.out).mono ?_
        rintro e w6 ⟨rfl, rfl⟩
        go_wp2_with fail
        by_cases ce : (o.txt i).size = m2
        · have d1 : (((o.txt i).size : Int) == (m2 : Int)) = true := by simp [ce]
          have d2 : (((o.txt i).size : Int) != (m2 : Int)) = false := by simp [ce]
          have HP2 := Lib.hid (HYES.out (by rw [HFO.out, decide_eq_true ce]))
          clear HYES HNO ce
          refine wp_region_held_drew (S := fun w' => Bx w' w.heap.size (voC o (.slice A 0 cp)) ∧ Below W2.heap.size W2 w') (by kernel_rfl) ⟨Z2.out.drew, (Below.refl _ W2).drew⟩ (fun hHeld => ?_)
          refine wpAnyH_take (i := 0) (oi := ⟨some 51, _, _, _, _, _⟩) (v := ?_) rfl (by kernel_rfl) (by kernel_rfl) (by kernel_rfl) (fun _ _ _ h => h) (Or.inl ⟨by kernel_rfl, ?_⟩) (by assumption) ?_
          rotate_left
          · (intro w hSw; (try dsimp only at hSw); go_simp; try (with_reducible rfl))
          try simp only [Act.put, List.setIfInBounds_toArray, List.set_cons_zero, List.set_cons_succ]
          refine wpAnyH_take (i := 1) (oi := ⟨some 52, _, _, _, _, _⟩) (v := ?_) rfl (by kernel_rfl) (by kernel_rfl) (by kernel_rfl) (fun _ _ _ h => h) (Or.inl ⟨by kernel_rfl, ?_⟩) (by assumption) ?_
          rotate_left
          · (intro w hSw; (try dsimp only at hSw); go_simp; try (with_reducible rfl))
          try simp only [Act.put, List.setIfInBounds_toArray, List.set_cons_zero, List.set_cons_succ]
          refine wpAnyH_take (i := 2) (oi := ⟨some 53, _, _, _, _, _⟩) (v := undef) rfl (by kernel_rfl) (by kernel_rfl) (by kernel_rfl) (fun _ _ _ h => h) (Or.inr ⟨by kernel_rfl, rfl⟩) (by assumption) ?_
          try simp only [Act.put, List.setIfInBounds_toArray, List.set_cons_zero, List.set_cons_succ]
          refine wpAnyH_take (i := 3) (oi := ⟨some 54, _, _, _, _, _⟩) (v := undef) rfl (by kernel_rfl) (by kernel_rfl) (by kernel_rfl) (fun _ _ _ h => h) (Or.inr ⟨by kernel_rfl, rfl⟩) (by assumption) ?_
          try simp only [Act.put, List.setIfInBounds_toArray, List.set_cons_zero, List.set_cons_succ]
          refine wpAnyH_take (i := 4) (oi := ⟨some 55, _, _, _, _, _⟩) (v := undef) rfl (by kernel_rfl) (by kernel_rfl) (by kernel_rfl) (fun _ _ _ h => h) (Or.inr ⟨by kernel_rfl, rfl⟩) (by assumption) ?_
          try simp only [Act.put, List.setIfInBounds_toArray, List.set_cons_zero, List.set_cons_succ]
          refine wpAnyH_take (i := 5) (oi := ⟨some 56, _, _, _, _, _⟩) (v := undef) rfl (by kernel_rfl) (by kernel_rfl) (by kernel_rfl) (fun _ _ _ h => h) (Or.inr ⟨by kernel_rfl, rfl⟩) (by assumption) ?_
          try simp only [Act.put, List.setIfInBounds_toArray, List.set_cons_zero, List.set_cons_succ]
          refine wpAnyH_take (i := 6) (oi := ⟨some 57, _, _, _, _, _⟩) (v := ?_) rfl (by kernel_rfl) (by kernel_rfl) (by kernel_rfl) (fun _ _ _ h => h) (Or.inl ⟨by kernel_rfl, ?_⟩) (by assumption) ?_
          rotate_left
          · (intro w hSw; (try dsimp only at hSw); go_simp; try (with_reducible rfl))
          try simp only [Act.put, List.setIfInBounds_toArray, List.set_cons_zero, List.set_cons_succ]
          refine wpAnyH_take (i := 7) (oi := ⟨some 58, _, _, _, _, _⟩) (v := ?_) rfl (by kernel_rfl) (by kernel_rfl) (by kernel_rfl) (fun _ _ _ h => h) (Or.inl ⟨by kernel_rfl, ?_⟩) (by assumption) ?_
          rotate_left
          · (intro w hSw; (try dsimp only at hSw); go_simp; try (with_reducible rfl))
          try simp only [Act.put, List.setIfInBounds_toArray, List.set_cons_zero, List.set_cons_succ]
          refine wpAnyH_take (i := 8) (oi := ⟨some 59, _, _, _, _, _⟩) (v := ?_) rfl (by kernel_rfl) (by kernel_rfl) (by kernel_rfl) (fun _ _ _ h => h) (Or.inl ⟨by kernel_rfl, ?_⟩) (by assumption) ?_
          rotate_left
          · (intro w hSw; (try dsimp only at hSw); go_simp; try (with_reducible rfl))
          try simp only [Act.put, List.setIfInBounds_toArray, List.set_cons_zero, List.set_cons_succ]
          refine wpAnyH_take (i := 9) (oi := ⟨some 60, _, _, _, _, _⟩) (v := ?_) rfl (by kernel_rfl) (by kernel_rfl) (by kernel_rfl) (fun _ _ _ h => h) (Or.inl ⟨by kernel_rfl, ?_⟩) (by assumption) ?_
          rotate_left
          · (intro w hSw; (try dsimp only at hSw); go_simp; try (with_reducible rfl))
          try simp only [Act.put, List.setIfInBounds_toArray, List.set_cons_zero, List.set_cons_succ]
          refine wpAnyH_take (i := 10) (oi := ⟨some 61, _, _, _, _, _⟩) (v := ?_) rfl (by kernel_rfl) (by kernel_rfl) (by kernel_rfl) (fun _ _ _ h => h) (Or.inl ⟨by kernel_rfl, ?_⟩) (by assumption) ?_
          rotate_left
          · (intro w hSw; (try dsimp only at hSw); go_simp; try (with_reducible rfl))
          try simp only [Act.put, List.setIfInBounds_toArray, List.set_cons_zero, List.set_cons_succ]
          refine wpAnyH_take (i := 11) (oi := ⟨some 62, _, _, _, _, _⟩) rfl (by kernel_rfl) (by kernel_rfl) (by kernel_rfl) (fun _ _ _ h => h) (yields_opt (by kernel_rfl) rfl (by rfl) (fun w h => h.1)) (by assumption) ?_
          try simp only [Act.put, List.setIfInBounds_toArray, List.set_cons_zero, List.set_cons_succ]
          refine wpAnyH_take (i := 12) (oi := ⟨some 63, _, _, _, _, _⟩) (v := ?_) rfl (by kernel_rfl) (by kernel_rfl) (by kernel_rfl) (fun _ _ _ h => h) (Or.inl ⟨by kernel_rfl, ?_⟩) (by assumption) ?_
          rotate_left
          · (intro w hSw; (try dsimp only at hSw); go_simp; try (with_reducible rfl))
          try simp only [Act.put, List.setIfInBounds_toArray, List.set_cons_zero, List.set_cons_succ]
          refine wpAnyH_take (i := 13) (oi := ⟨some 64, _, _, _, _, _⟩) (v := ?_) rfl (by kernel_rfl) (by kernel_rfl) (by kernel_rfl) (fun _ _ _ h => h) (Or.inl ⟨by kernel_rfl, ?_⟩) (by assumption) ?_
          rotate_left
          · (intro w hSw; (try dsimp only at hSw); go_simp; try (with_reducible rfl))
          try simp only [Act.put, List.setIfInBounds_toArray, List.set_cons_zero, List.set_cons_succ]
          refine wpAnyH_take (i := 14) (oi := ⟨some 65, _, _, _, _, _⟩) (v := ?_) rfl (by kernel_rfl) (by kernel_rfl) (by kernel_rfl) (fun _ _ _ h => h) (Or.inl ⟨by kernel_rfl, ?_⟩) (by assumption) ?_
          rotate_left
          · (intro w hSw; (try dsimp only at hSw); go_simp; try (with_reducible rfl))
          try simp only [Act.put, List.setIfInBounds_toArray, List.set_cons_zero, List.set_cons_succ]
          refine wpAnyH_take (i := 17) (oi := ⟨some 68, _, _, _, _, _⟩) (v := ?_) rfl (by kernel_rfl) (by kernel_rfl) (by kernel_rfl) (fun _ _ _ h => h) (Or.inl ⟨by kernel_rfl, ?_⟩) (by assumption) ?_
          rotate_left
          · (intro w hSw; (try dsimp only at hSw); go_simp; try (with_reducible rfl))
          try simp only [Act.put, List.setIfInBounds_toArray, List.set_cons_zero, List.set_cons_succ]
          refine wpAnyH_ready (rs := [15]) (by kernel_rfl) (by simp) ?_
          refine AllReadyH.cons (o := ⟨some 66, _, _, _, _, _⟩) rfl (fun K hK => ?_) AllReadyH.nil
          go_simp
          (go_at_call 75; refine (text_s o _ i _ HC.out).mono ?_; rintro e w7 ⟨rfl, hb7⟩)
          try go_wp2_with fail
          refine hK.out _ _ ?_ (fun hHeld => ?_)
          · exact ⟨Z2.out.drew.below hb7, (Below.refl _ W2).drew.trans hb7⟩
          clear hK K
          try simp only [Act.put, List.setIfInBounds_toArray, List.set_cons_zero, List.set_cons_succ]
          refine wpAnyH_take (i := 16) (oi := ⟨some 67, _, _, _, _, _⟩) (v := ?_) rfl (by kernel_rfl) (by kernel_rfl) (by kernel_rfl) (fun _ _ _ h => h) (Or.inl ⟨by kernel_rfl, ?_⟩) (by assumption) ?_
          rotate_left
          · (intro w hSw; (try dsimp only at hSw); go_simp; try (with_reducible rfl))
          try simp only [Act.put, List.setIfInBounds_toArray, List.set_cons_zero, List.set_cons_succ]
          refine wpAnyH_take (i := 18) (oi := ⟨some 69, _, _, _, _, _⟩) (v := ?_) rfl (by kernel_rfl) (by kernel_rfl) (by kernel_rfl) (fun _ _ _ h => h) (Or.inl ⟨by kernel_rfl, ?_⟩) (by assumption) ?_
          rotate_left
          · (intro w hSw; (try dsimp only at hSw); go_simp; try (with_reducible rfl))
          try simp only [Act.put, List.setIfInBounds_toArray, List.set_cons_zero, List.set_cons_succ]
          refine wpAnyH_take (i := 19) (oi := ⟨some 70, _, _, _, _, _⟩) (v := ?_) rfl (by kernel_rfl) (by kernel_rfl) (by kernel_rfl) (fun _ _ _ h => h) (Or.inl ⟨by kernel_rfl, ?_⟩) (by assumption) ?_
          rotate_left
          · (intro w hSw; (try dsimp only at hSw); go_simp; try (with_reducible rfl))
          try simp only [Act.put, List.setIfInBounds_toArray, List.set_cons_zero, List.set_cons_succ]
          refine wpAnyH_take (i := 20) (oi := ⟨some 71, _, _, _, _, _⟩) (v := ?_) rfl (by kernel_rfl) (by kernel_rfl) (by kernel_rfl) (fun _ _ _ h => h) (Or.inl ⟨by kernel_rfl, ?_⟩) (by assumption) ?_
          rotate_left
          · (intro w hSw; (try dsimp only at hSw); go_simp; try (with_reducible rfl))
          try simp only [Act.put, List.setIfInBounds_toArray, List.set_cons_zero, List.set_cons_succ]
          refine wpAnyH_done (by kernel_rfl) ?_ _
          have L7 := Lib.hid (L2.out.trans (((Below.refl W2.heap.size W2).drew.trans hb7).mono L2.out.size))
          have Z7 := Lib.hid (Z2.out.drew.below hb7)
          clear hb7
          repeat clear hHeld
          go_wp2
          go_roundw
          case rel => exact ⟨j + 1, by omega, by rw [show (j + 1) * 2 = p + 2 by have := HPP.out; omega]; go_num, HP2, Z7, L7⟩
          case measure => (have := HPP.out; simp [intOf]; try omega)
        · have d1 : (((o.txt i).size : Int) == (m2 : Int)) = false := by simp; omega
          have d2 : (((o.txt i).size : Int) != (m2 : Int)) = true := by simp; omega
          have HB := Lib.hid (HNO.out (by rw [HFO.out, decide_eq_false ce]))
          clear HYES HNO ce
          refine wp_region_held_drew (S := fun w' => Bx w' w.heap.size (voC o (.slice A 0 cp)) ∧ Below W2.heap.size W2 w') (by kernel_rfl) ⟨Z2.out.drew, (Below.refl _ W2).drew⟩ (fun hHeld => ?_)
          refine wpAnyH_take (i := 0) (oi := ⟨some 51, _, _, _, _, _⟩) (v := ?_) rfl (by kernel_rfl) (by kernel_rfl) (by kernel_rfl) (fun _ _ _ h => h) (Or.inl ⟨by kernel_rfl, ?_⟩) (by assumption) ?_
          rotate_left
          · (intro w hSw; (try dsimp only at hSw); go_simp; try (with_reducible rfl))
          try simp only [Act.put, List.setIfInBounds_toArray, List.set_cons_zero, List.set_cons_succ]
          refine wpAnyH_take (i := 1) (oi := ⟨some 52, _, _, _, _, _⟩) (v := ?_) rfl (by kernel_rfl) (by kernel_rfl) (by kernel_rfl) (fun _ _ _ h => h) (Or.inl ⟨by kernel_rfl, ?_⟩) (by assumption) ?_
          rotate_left
          · (intro w hSw; (try dsimp only at hSw); go_simp; try (with_reducible rfl))
          try simp only [Act.put, List.setIfInBounds_toArray, List.set_cons_zero, List.set_cons_succ]
          refine wpAnyH_take (i := 2) (oi := ⟨some 53, _, _, _, _, _⟩) (v := undef) rfl (by kernel_rfl) (by kernel_rfl) (by kernel_rfl) (fun _ _ _ h => h) (Or.inr ⟨by kernel_rfl, rfl⟩) (by assumption) ?_
          try simp only [Act.put, List.setIfInBounds_toArray, List.set_cons_zero, List.set_cons_succ]
          refine wpAnyH_take (i := 3) (oi := ⟨some 54, _, _, _, _, _⟩) (v := undef) rfl (by kernel_rfl) (by kernel_rfl) (by kernel_rfl) (fun _ _ _ h => h) (Or.inr ⟨by kernel_rfl, rfl⟩) (by assumption) ?_
          try simp only [Act.put, List.setIfInBounds_toArray, List.set_cons_zero, List.set_cons_succ]
          refine wpAnyH_take (i := 4) (oi := ⟨some 55, _, _, _, _, _⟩) (v := undef) rfl (by kernel_rfl) (by kernel_rfl) (by kernel_rfl) (fun _ _ _ h => h) (Or.inr ⟨by kernel_rfl, rfl⟩) (by assumption) ?_
          try simp only [Act.put, List.setIfInBounds_toArray, List.set_cons_zero, List.set_cons_succ]
          refine wpAnyH_take (i := 5) (oi := ⟨some 56, _, _, _, _, _⟩) (v := undef) rfl (by kernel_rfl) (by kernel_rfl) (by kernel_rfl) (fun _ _ _ h => h) (Or.inr ⟨by kernel_rfl, rfl⟩) (by assumption) ?_
          try simp only [Act.put, List.setIfInBounds_toArray, List.set_cons_zero, List.set_cons_succ]
          refine wpAnyH_take (i := 6) (oi := ⟨some 57, _, _, _, _, _⟩) (v := ?_) rfl (by kernel_rfl) (by kernel_rfl) (by kernel_rfl) (fun _ _ _ h => h) (Or.inl ⟨by kernel_rfl, ?_⟩) (by assumption) ?_
          rotate_left
          · (intro w hSw; (try dsimp only at hSw); go_simp; try (with_reducible rfl))
          try simp only [Act.put, List.setIfInBounds_toArray, List.set_cons_zero, List.set_cons_succ]
          refine wpAnyH_take (i := 7) (oi := ⟨some 58, _, _, _, _, _⟩) (v := ?_) rfl (by kernel_rfl) (by kernel_rfl) (by kernel_rfl) (fun _ _ _ h => h) (Or.inl ⟨by kernel_rfl, ?_⟩) (by assumption) ?_
          rotate_left
          · (intro w hSw; (try dsimp only at hSw); go_simp; try (with_reducible rfl))
          try simp only [Act.put, List.setIfInBounds_toArray, List.set_cons_zero, List.set_cons_succ]
          refine wpAnyH_take (i := 8) (oi := ⟨some 59, _, _, _, _, _⟩) (v := ?_) rfl (by kernel_rfl) (by kernel_rfl) (by kernel_rfl) (fun _ _ _ h => h) (Or.inl ⟨by kernel_rfl, ?_⟩) (by assumption) ?_
          rotate_left
          · (intro w hSw; (try dsimp only at hSw); go_simp; try (with_reducible rfl))
          try simp only [Act.put, List.setIfInBounds_toArray, List.set_cons_zero, List.set_cons_succ]
          refine wpAnyH_take (i := 9) (oi := ⟨some 60, _, _, _, _, _⟩) (v := ?_) rfl (by kernel_rfl) (by kernel_rfl) (by kernel_rfl) (fun _ _ _ h => h) (Or.inl ⟨by kernel_rfl, ?_⟩) (by assumption) ?_
          rotate_left
          · (intro w hSw; (try dsimp only at hSw); go_simp; try (with_reducible rfl))
          try simp only [Act.put, List.setIfInBounds_toArray, List.set_cons_zero, List.set_cons_succ]
          refine wpAnyH_take (i := 10) (oi := ⟨some 61, _, _, _, _, _⟩) (v := ?_) rfl (by kernel_rfl) (by kernel_rfl) (by kernel_rfl) (fun _ _ _ h => h) (Or.inl ⟨by kernel_rfl, ?_⟩) (by assumption) ?_
          rotate_left
          · (intro w hSw; (try dsimp only at hSw); go_simp; try (with_reducible rfl))
          try simp only [Act.put, List.setIfInBounds_toArray, List.set_cons_zero, List.set_cons_succ]
          refine wpAnyH_take (i := 11) (oi := ⟨some 62, _, _, _, _, _⟩) rfl (by kernel_rfl) (by kernel_rfl) (by kernel_rfl) (fun _ _ _ h => h) (yields_opt (by kernel_rfl) rfl (by rfl) (fun w h => h.1)) (by assumption) ?_
          try simp only [Act.put, List.setIfInBounds_toArray, List.set_cons_zero, List.set_cons_succ]
          refine wpAnyH_take (i := 12) (oi := ⟨some 63, _, _, _, _, _⟩) (v := ?_) rfl (by kernel_rfl) (by kernel_rfl) (by kernel_rfl) (fun _ _ _ h => h) (Or.inl ⟨by kernel_rfl, ?_⟩) (by assumption) ?_
          rotate_left
          · (intro w hSw; (try dsimp only at hSw); go_simp; try (with_reducible rfl))
          try simp only [Act.put, List.setIfInBounds_toArray, List.set_cons_zero, List.set_cons_succ]
          refine wpAnyH_take (i := 13) (oi := ⟨some 64, _, _, _, _, _⟩) (v := ?_) rfl (by kernel_rfl) (by kernel_rfl) (by kernel_rfl) (fun _ _ _ h => h) (Or.inl ⟨by kernel_rfl, ?_⟩) (by assumption) ?_
          rotate_left
          · (intro w hSw; (try dsimp only at hSw); go_simp; try (with_reducible rfl))
          try simp only [Act.put, List.setIfInBounds_toArray, List.set_cons_zero, List.set_cons_succ]
          refine wpAnyH_take (i := 14) (oi := ⟨some 65, _, _, _, _, _⟩) (v := ?_) rfl (by kernel_rfl) (by kernel_rfl) (by kernel_rfl) (fun _ _ _ h => h) (Or.inl ⟨by kernel_rfl, ?_⟩) (by assumption) ?_
          rotate_left
          · (intro w hSw; (try dsimp only at hSw); go_simp; try (with_reducible rfl))
          try simp only [Act.put, List.setIfInBounds_toArray, List.set_cons_zero, List.set_cons_succ]
          refine wpAnyH_take (i := 17) (oi := ⟨some 68, _, _, _, _, _⟩) (v := ?_) rfl (by kernel_rfl) (by kernel_rfl) (by kernel_rfl) (fun _ _ _ h => h) (Or.inl ⟨by kernel_rfl, ?_⟩) (by assumption) ?_
          rotate_left
          · (intro w hSw; (try dsimp only at hSw); go_simp; try (with_reducible rfl))
          try simp only [Act.put, List.setIfInBounds_toArray, List.set_cons_zero, List.set_cons_succ]
          refine wpAnyH_ready (rs := [15]) (by kernel_rfl) (by simp) ?_
          refine AllReadyH.cons (o := ⟨some 66, _, _, _, _, _⟩) rfl (fun K hK => ?_) AllReadyH.nil
          go_simp
          (go_at_call 75; refine (text_s o _ i _ HC.out).mono ?_; rintro e w7 ⟨rfl, hb7⟩)
          try go_wp2_with fail
          refine hK.out _ _ ?_ (fun hHeld => ?_)
          · exact ⟨Z2.out.drew.below hb7, (Below.refl _ W2).drew.trans hb7⟩
          clear hK K
          try simp only [Act.put, List.setIfInBounds_toArray, List.set_cons_zero, List.set_cons_succ]
          refine wpAnyH_take (i := 16) (oi := ⟨some 67, _, _, _, _, _⟩) (v := ?_) rfl (by kernel_rfl) (by kernel_rfl) (by kernel_rfl) (fun _ _ _ h => h) (Or.inl ⟨by kernel_rfl, ?_⟩) (by assumption) ?_
          rotate_left
          · (intro w hSw; (try dsimp only at hSw); go_simp; try (with_reducible rfl))
          try simp only [Act.put, List.setIfInBounds_toArray, List.set_cons_zero, List.set_cons_succ]
          refine wpAnyH_take (i := 18) (oi := ⟨some 69, _, _, _, _, _⟩) (v := ?_) rfl (by kernel_rfl) (by kernel_rfl) (by kernel_rfl) (fun _ _ _ h => h) (Or.inl ⟨by kernel_rfl, ?_⟩) (by assumption) ?_
          rotate_left
          · (intro w hSw; (try dsimp only at hSw); go_simp; try (with_reducible rfl))
          try simp only [Act.put, List.setIfInBounds_toArray, List.set_cons_zero, List.set_cons_succ]
          refine wpAnyH_take (i := 19) (oi := ⟨some 70, _, _, _, _, _⟩) (v := ?_) rfl (by kernel_rfl) (by kernel_rfl) (by kernel_rfl) (fun _ _ _ h => h) (Or.inl ⟨by kernel_rfl, ?_⟩) (by assumption) ?_
          rotate_left
          · (intro w hSw; (try dsimp only at hSw); go_simp; try (with_reducible rfl))
          try simp only [Act.put, List.setIfInBounds_toArray, List.set_cons_zero, List.set_cons_succ]
          refine wpAnyH_take (i := 20) (oi := ⟨some 71, _, _, _, _, _⟩) (v := ?_) rfl (by kernel_rfl) (by kernel_rfl) (by kernel_rfl) (fun _ _ _ h => h) (Or.inl ⟨by kernel_rfl, ?_⟩) (by assumption) ?_
          rotate_left
          · (intro w hSw; (try dsimp only at hSw); go_simp; try (with_reducible rfl))
          try simp only [Act.put, List.setIfInBounds_toArray, List.set_cons_zero, List.set_cons_succ]
          refine wpAnyH_done (by kernel_rfl) ?_ _
          have L7 := Lib.hid (L2.out.trans (((Below.refl W2.heap.size W2).drew.trans hb7).mono L2.out.size))
          clear hb7
          repeat clear hHeld
          go_wp2
          go_ret
          exact ⟨ret_bool HB.out.symm, L7.out⟩
      · have hfo : fieldOk o (i, m2) = numTextB (o.num i) m2 := fieldOk_num c11 HFL.out
        have HFO := Lib.hid hfo
        have i10 : i ≤ 10 := by omega
        have hnum := wf_num HWF.out i
        clear hfo c11
        obtain ⟨X, hX⟩ : ∃ X, X = str (numTextL (o.num i) m2) := ⟨_, rfl⟩
        have hXe : X.toList.isEmpty = !numTextB (o.num i) m2 := by rw [hX]; exact isE_nt
        have HX := Lib.hid hX
        clear hX
        go_wp2_with fail
        refine wp_region_held_drew (S := fun w' => Bx w' w.heap.size (voC o (.slice A 0 cp)) ∧ Below wr.heap.size wr w') (by kernel_rfl) ⟨V1.out.drew, (Below.refl _ wr).drew⟩ (fun hHeld => ?_)
        refine wpAnyH_take (i := 0) rfl (by kernel_rfl) (by kernel_rfl) (by kernel_rfl) (fun _ _ _ h => h) (yields_opt (by kernel_rfl) rfl (by rfl) (fun w h => h.1)) (by assumption) ?_
        try simp only [Act.put, List.setIfInBounds_toArray, List.set_cons_zero, List.set_cons_succ]
        refine wpAnyH_take (i := 1) (v := ?_) rfl (by kernel_rfl) (by kernel_rfl) (by kernel_rfl) (fun _ _ _ h => h) (Or.inl ⟨by rfl, ?_⟩) (by assumption) ?_
        rotate_left
        · (intro w hSw; (try dsimp only at hSw); go_simp; try (with_reducible rfl))
        try simp only [Act.put, List.setIfInBounds_toArray, List.set_cons_zero, List.set_cons_succ]
        refine wpAnyH_take (i := 2) (v := ?_) rfl (by kernel_rfl) (by kernel_rfl) (by kernel_rfl) (fun _ _ _ h => h) (Or.inl ⟨by rfl, ?_⟩) (by assumption) ?_
        rotate_left
        · (intro w hSw; (try dsimp only at hSw); go_simp; try (with_reducible rfl))
        try simp only [Act.put, List.setIfInBounds_toArray, List.set_cons_zero, List.set_cons_succ]
        refine wpAnyH_take (i := 3) (v := ?_) rfl (by kernel_rfl) (by kernel_rfl) (by kernel_rfl) (fun _ _ _ h => h) (Or.inl ⟨by rfl, ?_⟩) (by assumption) ?_
        rotate_left
        · (intro w hSw; (try dsimp only at hSw); go_simp; try (with_reducible rfl))
        try simp only [Act.put, List.setIfInBounds_toArray, List.set_cons_zero, List.set_cons_succ]
        refine wpAnyH_ready (rs := [4]) (by kernel_rfl) (by simp) ?_
        refine AllReadyH.cons rfl (fun K hK => ?_) AllReadyH.nil
        go_simp
        (go_at_call 72; refine (num_s o _ i _ i1 i10).mono ?_; rintro e W2 ⟨rfl, hb2⟩)
        try go_wp2_with fail
        refine hK.out _ _ ?_ (fun hHeld => ?_)
        · exact HKP.out _ hb2
        clear hK K
        try simp only [Act.put, List.setIfInBounds_toArray, List.set_cons_zero, List.set_cons_succ]
        refine wpAnyH_take (i := 5) (v := ?_) rfl (by kernel_rfl) (by kernel_rfl) (by kernel_rfl) (fun _ _ _ h => h) (Or.inl ⟨by rfl, ?_⟩) (by assumption) ?_
        rotate_left
        · (intro w hSw; (try dsimp only at hSw); go_simp; try (with_reducible rfl))
        try simp only [Act.put, List.setIfInBounds_toArray, List.set_cons_zero, List.set_cons_succ]
        refine wpAnyH_take (i := 6) (v := ?_) rfl (by kernel_rfl) (by kernel_rfl) (by kernel_rfl) (fun _ _ _ h => h) (Or.inl ⟨by rfl, ?_⟩) (by assumption) ?_
        rotate_left
        · (intro w hSw; (try dsimp only at hSw); go_simp; try (with_reducible rfl))
        try simp only [Act.put, List.setIfInBounds_toArray, List.set_cons_zero, List.set_cons_succ]
        refine wpAnyH_take (i := 7) (v := ?_) rfl (by kernel_rfl) (by kernel_rfl) (by kernel_rfl) (fun _ _ _ h => h) (Or.inl ⟨by rfl, ?_⟩) (by assumption) ?_
        rotate_left
        · (intro w hSw; (try dsimp only at hSw); go_simp; try (with_reducible rfl))
        try simp only [Act.put, List.setIfInBounds_toArray, List.set_cons_zero, List.set_cons_succ]
        refine wpAnyH_take (i := 8) (v := ?_) rfl (by kernel_rfl) (by kernel_rfl) (by kernel_rfl) (fun _ _ _ h => h) (Or.inl ⟨by rfl, ?_⟩) (by assumption) ?_
        rotate_left
        · (intro w hSw; (try dsimp only at hSw); go_simp; try (with_reducible rfl))
        try simp only [Act.put, List.setIfInBounds_toArray, List.set_cons_zero, List.set_cons_succ]
        refine wpAnyH_take (i := 9) (v := ?_) rfl (by kernel_rfl) (by kernel_rfl) (by kernel_rfl) (fun _ _ _ h => h) (Or.inl ⟨by rfl, ?_⟩) (by assumption) ?_
        rotate_left
        · (intro w hSw; (try dsimp only at hSw); go_simp; try (with_reducible rfl))
        try simp only [Act.put, List.setIfInBounds_toArray, List.set_cons_zero, List.set_cons_succ]
        refine wpAnyH_done (by kernel_rfl) ?_ _
        have K2 := Lib.hid (HKP.out _ hb2)
        clear hb2 x13
        repeat clear hHeld
        have Z2 := Lib.hid K2.out.1
        have L2 := Lib.hid (LW.out.trans (K2.out.2.mono LW.out.size))
        go_wp2_with fail
        refine (wide_s m2 _ HW2.out).mono ?_
        rintro e w6 ⟨rfl, rfl⟩
        go_wp2_with fail
        cases hb : numTextB (o.num i) m2
        · rw [hb] at hXe
          have e1 : X.toList.isEmpty = true := hXe
          have e2 : X.toList = [] := List.isEmpty_iff.1 e1
          have HB := Lib.hid (HNO.out (by rw [HFO.out, hb]))
          clear HYES HNO hXe hb
          refine wp_region_held_drew (S := fun w' => Bx w' w.heap.size (voC o (.slice A 0 cp)) ∧ Below W2.heap.size W2 w') (by kernel_rfl) ⟨Z2.out.drew, (Below.refl _ W2).drew⟩ (fun hHeld => ?_)
          refine wpAnyH_take (i := 0) (oi := ⟨some 51, _, _, _, _, _⟩) (v := ?_) rfl (by kernel_rfl) (by kernel_rfl) (by kernel_rfl) (fun _ _ _ h => h) (Or.inl ⟨by kernel_rfl, ?_⟩) (by assumption) ?_
          rotate_left
          · (intro w hSw; (try dsimp only at hSw); go_simp; try (with_reducible rfl))
          try simp only [Act.put, List.setIfInBounds_toArray, List.set_cons_zero, List.set_cons_succ]
          refine wpAnyH_take (i := 1) (oi := ⟨some 52, _, _, _, _, _⟩) (v := ?_) rfl (by kernel_rfl) (by kernel_rfl) (by kernel_rfl) (fun _ _ _ h => h) (Or.inl ⟨by kernel_rfl, ?_⟩) (by assumption) ?_
          rotate_left
          · (intro w hSw; (try dsimp only at hSw); go_simp; try (with_reducible rfl))
          try simp only [Act.put, List.setIfInBounds_toArray, List.set_cons_zero, List.set_cons_succ]
          refine wpAnyH_take (i := 2) (oi := ⟨some 53, _, _, _, _, _⟩) (v := ?_) rfl (by kernel_rfl) (by kernel_rfl) (by kernel_rfl) (fun _ _ _ h => h) (Or.inl ⟨by kernel_rfl, ?_⟩) (by assumption) ?_
          rotate_left
          · (intro w hSw; (try dsimp only at hSw); go_simp; try (with_reducible rfl))
          try simp only [Act.put, List.setIfInBounds_toArray, List.set_cons_zero, List.set_cons_succ]
          refine wpAnyH_take (i := 3) (oi := ⟨some 54, _, _, _, _, _⟩) (v := ?_) rfl (by kernel_rfl) (by kernel_rfl) (by kernel_rfl) (fun _ _ _ h => h) (Or.inl ⟨by kernel_rfl, ?_⟩) (by assumption) ?_
          rotate_left
          · (intro w hSw; (try dsimp only at hSw); go_simp; try (with_reducible rfl))
          try simp only [Act.put, List.setIfInBounds_toArray, List.set_cons_zero, List.set_cons_succ]
          refine wpAnyH_ready (rs := [4]) (by kernel_rfl) (by simp) ?_
          refine AllReadyH.cons (o := ⟨some 55, _, _, _, _, _⟩) rfl (fun K hK => ?_) AllReadyH.nil
          go_simp
          (go_at_call 74; refine (numText_s (o.num i) m2 _ hnum).mono ?_; rw [← HX.out]; rintro e w7 ⟨rfl, hb7⟩)
          try go_wp2_with fail
          refine hK.out _ _ ?_ (fun hHeld => ?_)
          · exact ⟨Z2.out.drew.below hb7, (Below.refl _ W2).drew.trans hb7⟩
          clear hK K
          try simp only [Act.put, List.setIfInBounds_toArray, List.set_cons_zero, List.set_cons_succ]
          refine wpAnyH_take (i := 5) (oi := ⟨some 56, _, _, _, _, _⟩) (v := ?_) rfl (by kernel_rfl) (by kernel_rfl) (by kernel_rfl) (fun _ _ _ h => h) (Or.inl ⟨by kernel_rfl, ?_⟩) (by assumption) ?_
          rotate_left
          · (intro w hSw; (try dsimp only at hSw); go_simp; try (with_reducible rfl))
          try simp only [Act.put, List.setIfInBounds_toArray, List.set_cons_zero, List.set_cons_succ]
          refine wpAnyH_take (i := 6) (oi := ⟨some 57, _, _, _, _, _⟩) (v := ?_) rfl (by kernel_rfl) (by kernel_rfl) (by kernel_rfl) (fun _ _ _ h => h) (Or.inl ⟨by kernel_rfl, ?_⟩) (by assumption) ?_
          rotate_left
          · (intro w hSw; (try dsimp only at hSw); go_simp; try (with_reducible rfl))
          try simp only [Act.put, List.setIfInBounds_toArray, List.set_cons_zero, List.set_cons_succ]
          refine wpAnyH_take (i := 7) (oi := ⟨some 58, _, _, _, _, _⟩) (v := ?_) rfl (by kernel_rfl) (by kernel_rfl) (by kernel_rfl) (fun _ _ _ h => h) (Or.inl ⟨by kernel_rfl, ?_⟩) (by assumption) ?_
          rotate_left
          · (intro w hSw; (try dsimp only at hSw); go_simp; try (with_reducible rfl))
          try simp only [Act.put, List.setIfInBounds_toArray, List.set_cons_zero, List.set_cons_succ]
          refine wpAnyH_take (i := 8) (oi := ⟨some 59, _, _, _, _, _⟩) (v := undef) rfl (by kernel_rfl) (by kernel_rfl) (by kernel_rfl) (fun _ _ _ h => h) (Or.inr ⟨by kernel_rfl, rfl⟩) (by assumption) ?_
          try simp only [Act.put, List.setIfInBounds_toArray, List.set_cons_zero, List.set_cons_succ]
          refine wpAnyH_take (i := 9) (oi := ⟨some 60, _, _, _, _, _⟩) (v := undef) rfl (by kernel_rfl) (by kernel_rfl) (by kernel_rfl) (fun _ _ _ h => h) (Or.inr ⟨by kernel_rfl, rfl⟩) (by assumption) ?_
          try simp only [Act.put, List.setIfInBounds_toArray, List.set_cons_zero, List.set_cons_succ]
          refine wpAnyH_take (i := 10) (oi := ⟨some 61, _, _, _, _, _⟩) (v := undef) rfl (by kernel_rfl) (by kernel_rfl) (by kernel_rfl) (fun _ _ _ h => h) (Or.inr ⟨by kernel_rfl, rfl⟩) (by assumption) ?_
          try simp only [Act.put, List.setIfInBounds_toArray, List.set_cons_zero, List.set_cons_succ]
          refine wpAnyH_take (i := 11) (oi := ⟨some 62, _, _, _, _, _⟩) (v := undef) rfl (by kernel_rfl) (by kernel_rfl) (by kernel_rfl) (fun _ _ _ h => h) (Or.inr ⟨by kernel_rfl, rfl⟩) (by assumption) ?_
          try simp only [Act.put, List.setIfInBounds_toArray, List.set_cons_zero, List.set_cons_succ]
          refine wpAnyH_take (i := 12) (oi := ⟨some 63, _, _, _, _, _⟩) (v := undef) rfl (by kernel_rfl) (by kernel_rfl) (by kernel_rfl) (fun _ _ _ h => h) (Or.inr ⟨by kernel_rfl, rfl⟩) (by assumption) ?_
          try simp only [Act.put, List.setIfInBounds_toArray, List.set_cons_zero, List.set_cons_succ]
          refine wpAnyH_take (i := 13) (oi := ⟨some 64, _, _, _, _, _⟩) (v := undef) rfl (by kernel_rfl) (by kernel_rfl) (by kernel_rfl) (fun _ _ _ h => h) (Or.inr ⟨by kernel_rfl, rfl⟩) (by assumption) ?_
          try simp only [Act.put, List.setIfInBounds_toArray, List.set_cons_zero, List.set_cons_succ]
          refine wpAnyH_take (i := 14) (oi := ⟨some 65, _, _, _, _, _⟩) (v := undef) rfl (by kernel_rfl) (by kernel_rfl) (by kernel_rfl) (fun _ _ _ h => h) (Or.inr ⟨by kernel_rfl, rfl⟩) (by assumption) ?_
          try simp only [Act.put, List.setIfInBounds_toArray, List.set_cons_zero, List.set_cons_succ]
          refine wpAnyH_take (i := 15) (oi := ⟨some 66, _, _, _, _, _⟩) (v := undef) rfl (by kernel_rfl) (by kernel_rfl) (by kernel_rfl) (fun _ _ _ h => h) (Or.inr ⟨by kernel_rfl, rfl⟩) (by assumption) ?_
          try simp only [Act.put, List.setIfInBounds_toArray, List.set_cons_zero, List.set_cons_succ]
          refine wpAnyH_take (i := 16) (oi := ⟨some 67, _, _, _, _, _⟩) (v := undef) rfl (by kernel_rfl) (by kernel_rfl) (by kernel_rfl) (fun _ _ _ h => h) (Or.inr ⟨by kernel_rfl, rfl⟩) (by assumption) ?_
          try simp only [Act.put, List.setIfInBounds_toArray, List.set_cons_zero, List.set_cons_succ]
          refine wpAnyH_take (i := 17) (oi := ⟨some 68, _, _, _, _, _⟩) (v := undef) rfl (by kernel_rfl) (by kernel_rfl) (by kernel_rfl) (fun _ _ _ h => h) (Or.inr ⟨by kernel_rfl, rfl⟩) (by assumption) ?_
          try simp only [Act.put, List.setIfInBounds_toArray, List.set_cons_zero, List.set_cons_succ]
          refine wpAnyH_take (i := 18) (oi := ⟨some 69, _, _, _, _, _⟩) (v := undef) rfl (by kernel_rfl) (by kernel_rfl) (by kernel_rfl) (fun _ _ _ h => h) (Or.inr ⟨by kernel_rfl, rfl⟩) (by assumption) ?_
          try simp only [Act.put, List.setIfInBounds_toArray, List.set_cons_zero, List.set_cons_succ]
          refine wpAnyH_take (i := 19) (oi := ⟨some 70, _, _, _, _, _⟩) (v := undef) rfl (by kernel_rfl) (by kernel_rfl) (by kernel_rfl) (fun _ _ _ h => h) (Or.inr ⟨by kernel_rfl, rfl⟩) (by assumption) ?_
          try simp only [Act.put, List.setIfInBounds_toArray, List.set_cons_zero, List.set_cons_succ]
          refine wpAnyH_take (i := 20) (oi := ⟨some 71, _, _, _, _, _⟩) (v := ?_) rfl (by kernel_rfl) (by kernel_rfl) (by kernel_rfl) (fun _ _ _ h => h) (Or.inl ⟨by kernel_rfl, ?_⟩) (by assumption) ?_
          rotate_left
          · (intro w hSw; (try dsimp only at hSw); go_simp; try (with_reducible rfl))
          try simp only [Act.put, List.setIfInBounds_toArray, List.set_cons_zero, List.set_cons_succ]
          refine wpAnyH_done (by kernel_rfl) ?_ _
          have L7 := Lib.hid (L2.out.trans (((Below.refl W2.heap.size W2).drew.trans hb7).mono L2.out.size))
          clear hb7
          repeat clear hHeld
          go_wp2
          go_ret
          exact ⟨ret_bool HB.out.symm, L7.out⟩
        · rw [hb] at hXe
          have e1 : X.toList.isEmpty = false := hXe
          have e2 : ¬ X.toList = [] := by intro e; rw [e] at e1; cases e1
          have HP2 := Lib.hid (HYES.out (by rw [HFO.out, hb]))
          clear HYES HNO hXe hb
          refine wp_region_held_drew (S := fun w' => Bx w' w.heap.size (voC o (.slice A 0 cp)) ∧ Below W2.heap.size W2 w') (by kernel_rfl) ⟨Z2.out.drew, (Below.refl _ W2).drew⟩ (fun hHeld => ?_)
          refine wpAnyH_take (i := 0) (oi := ⟨some 51, _, _, _, _, _⟩) (v := ?_) rfl (by kernel_rfl) (by kernel_rfl) (by kernel_rfl) (fun _ _ _ h => h) (Or.inl ⟨by kernel_rfl, ?_⟩) (by assumption) ?_
          rotate_left
          · (intro w hSw; (try dsimp only at hSw); go_simp; try (with_reducible rfl))
          try simp only [Act.put, List.setIfInBounds_toArray, List.set_cons_zero, List.set_cons_succ]
          refine wpAnyH_take (i := 1) (oi := ⟨some 52, _, _, _, _, _⟩) (v := ?_) rfl (by kernel_rfl) (by kernel_rfl) (by kernel_rfl) (fun _ _ _ h => h) (Or.inl ⟨by kernel_rfl, ?_⟩) (by assumption) ?_
          rotate_left
          · (intro w hSw; (try dsimp only at hSw); go_simp; try (with_reducible rfl))
          try simp only [Act.put, List.setIfInBounds_toArray, List.set_cons_zero, List.set_cons_succ]
          refine wpAnyH_take (i := 2) (oi := ⟨some 53, _, _, _, _, _⟩) (v := ?_) rfl (by kernel_rfl) (by kernel_rfl) (by kernel_rfl) (fun _ _ _ h => h) (Or.inl ⟨by kernel_rfl, ?_⟩) (by assumption) ?_
          rotate_left
          · (intro w hSw; (try dsimp only at hSw); go_simp; try (with_reducible rfl))
          try simp only [Act.put, List.setIfInBounds_toArray, List.set_cons_zero, List.set_cons_succ]
          refine wpAnyH_take (i := 3) (oi := ⟨some 54, _, _, _, _, _⟩) (v := ?_) rfl (by kernel_rfl) (by kernel_rfl) (by kernel_rfl) (fun _ _ _ h => h) (Or.inl ⟨by kernel_rfl, ?_⟩) (by assumption) ?_
          rotate_left
          · (intro w hSw; (try dsimp only at hSw); go_simp; try (with_reducible rfl))
          try simp only [Act.put, List.setIfInBounds_toArray, List.set_cons_zero, List.set_cons_succ]
          refine wpAnyH_ready (rs := [4]) (by kernel_rfl) (by simp) ?_
          refine AllReadyH.cons (o := ⟨some 55, _, _, _, _, _⟩) rfl (fun K hK => ?_) AllReadyH.nil
          go_simp
          (go_at_call 74; refine (numText_s (o.num i) m2 _ hnum).mono ?_; rw [← HX.out]; rintro e w7 ⟨rfl, hb7⟩)
          try go_wp2_with fail
          refine hK.out _ _ ?_ (fun hHeld => ?_)
          · exact ⟨Z2.out.drew.below hb7, (Below.refl _ W2).drew.trans hb7⟩
          clear hK K
          try simp only [Act.put, List.setIfInBounds_toArray, List.set_cons_zero, List.set_cons_succ]
          refine wpAnyH_take (i := 5) (oi := ⟨some 56, _, _, _, _, _⟩) (v := ?_) rfl (by kernel_rfl) (by kernel_rfl) (by kernel_rfl) (fun _ _ _ h => h) (Or.inl ⟨by kernel_rfl, ?_⟩) (by assumption) ?_
          rotate_left
          · (intro w hSw; (try dsimp only at hSw); go_simp; try (with_reducible rfl))
          try simp only [Act.put, List.setIfInBounds_toArray, List.set_cons_zero, List.set_cons_succ]
          refine wpAnyH_take (i := 6) (oi := ⟨some 57, _, _, _, _, _⟩) (v := ?_) rfl (by kernel_rfl) (by kernel_rfl) (by kernel_rfl) (fun _ _ _ h => h) (Or.inl ⟨by kernel_rfl, ?_⟩) (by assumption) ?_
          rotate_left
          · (intro w hSw; (try dsimp only at hSw); go_simp; try (with_reducible rfl))
          try simp only [Act.put, List.setIfInBounds_toArray, List.set_cons_zero, List.set_cons_succ]
          refine wpAnyH_take (i := 7) (oi := ⟨some 58, _, _, _, _, _⟩) (v := ?_) rfl (by kernel_rfl) (by kernel_rfl) (by kernel_rfl) (fun _ _ _ h => h) (Or.inl ⟨by kernel_rfl, ?_⟩) (by assumption) ?_
          rotate_left
          · (intro w hSw; (try dsimp only at hSw); go_simp; try (with_reducible rfl))
          try simp only [Act.put, List.setIfInBounds_toArray, List.set_cons_zero, List.set_cons_succ]
          refine wpAnyH_take (i := 8) (oi := ⟨some 59, _, _, _, _, _⟩) (v := ?_) rfl (by kernel_rfl) (by kernel_rfl) (by kernel_rfl) (fun _ _ _ h => h) (Or.inl ⟨by kernel_rfl, ?_⟩) (by assumption) ?_
          rotate_left
          · (intro w hSw; (try dsimp only at hSw); go_simp; try (with_reducible rfl))
          try simp only [Act.put, List.setIfInBounds_toArray, List.set_cons_zero, List.set_cons_succ]
          refine wpAnyH_take (i := 9) (oi := ⟨some 60, _, _, _, _, _⟩) (v := ?_) rfl (by kernel_rfl) (by kernel_rfl) (by kernel_rfl) (fun _ _ _ h => h) (Or.inl ⟨by kernel_rfl, ?_⟩) (by assumption) ?_
          rotate_left
          · (intro w hSw; (try dsimp only at hSw); go_simp; try (with_reducible rfl))
          try simp only [Act.put, List.setIfInBounds_toArray, List.set_cons_zero, List.set_cons_succ]
          refine wpAnyH_take (i := 10) (oi := ⟨some 61, _, _, _, _, _⟩) (v := ?_) rfl (by kernel_rfl) (by kernel_rfl) (by kernel_rfl) (fun _ _ _ h => h) (Or.inl ⟨by kernel_rfl, ?_⟩) (by assumption) ?_
          rotate_left
          · (intro w hSw; (try dsimp only at hSw); go_simp; try (with_reducible rfl))
          try simp only [Act.put, List.setIfInBounds_toArray, List.set_cons_zero, List.set_cons_succ]
          refine wpAnyH_take (i := 11) (oi := ⟨some 62, _, _, _, _, _⟩) (v := undef) rfl (by kernel_rfl) (by kernel_rfl) (by kernel_rfl) (fun _ _ _ h => h) (Or.inr ⟨by kernel_rfl, rfl⟩) (by assumption) ?_
          try simp only [Act.put, List.setIfInBounds_toArray, List.set_cons_zero, List.set_cons_succ]
          refine wpAnyH_take (i := 12) (oi := ⟨some 63, _, _, _, _, _⟩) (v := undef) rfl (by kernel_rfl) (by kernel_rfl) (by kernel_rfl) (fun _ _ _ h => h) (Or.inr ⟨by kernel_rfl, rfl⟩) (by assumption) ?_
          try simp only [Act.put, List.setIfInBounds_toArray, List.set_cons_zero, List.set_cons_succ]
          refine wpAnyH_take (i := 13) (oi := ⟨some 64, _, _, _, _, _⟩) (v := undef) rfl (by kernel_rfl) (by kernel_rfl) (by kernel_rfl) (fun _ _ _ h => h) (Or.inr ⟨by kernel_rfl, rfl⟩) (by assumption) ?_
          try simp only [Act.put, List.setIfInBounds_toArray, List.set_cons_zero, List.set_cons_succ]
          refine wpAnyH_take (i := 14) (oi := ⟨some 65, _, _, _, _, _⟩) (v := undef) rfl (by kernel_rfl) (by kernel_rfl) (by kernel_rfl) (fun _ _ _ h => h) (Or.inr ⟨by kernel_rfl, rfl⟩) (by assumption) ?_
          try simp only [Act.put, List.setIfInBounds_toArray, List.set_cons_zero, List.set_cons_succ]
          refine wpAnyH_take (i := 15) (oi := ⟨some 66, _, _, _, _, _⟩) (v := undef) rfl (by kernel_rfl) (by kernel_rfl) (by kernel_rfl) (fun _ _ _ h => h) (Or.inr ⟨by kernel_rfl, rfl⟩) (by assumption) ?_
          try simp only [Act.put, List.setIfInBounds_toArray, List.set_cons_zero, List.set_cons_succ]
          refine wpAnyH_take (i := 16) (oi := ⟨some 67, _, _, _, _, _⟩) (v := undef) rfl (by kernel_rfl) (by kernel_rfl) (by kernel_rfl) (fun _ _ _ h => h) (Or.inr ⟨by kernel_rfl, rfl⟩) (by assumption) ?_
          try simp only [Act.put, List.setIfInBounds_toArray, List.set_cons_zero, List.set_cons_succ]
          refine wpAnyH_take (i := 17) (oi := ⟨some 68, _, _, _, _, _⟩) (v := undef) rfl (by kernel_rfl) (by kernel_rfl) (by kernel_rfl) (fun _ _ _ h => h) (Or.inr ⟨by kernel_rfl, rfl⟩) (by assumption) ?_
          try simp only [Act.put, List.setIfInBounds_toArray, List.set_cons_zero, List.set_cons_succ]
          refine wpAnyH_take (i := 18) (oi := ⟨some 69, _, _, _, _, _⟩) (v := undef) rfl (by kernel_rfl) (by kernel_rfl) (by kernel_rfl) (fun _ _ _ h => h) (Or.inr ⟨by kernel_rfl, rfl⟩) (by assumption) ?_
          try simp only [Act.put, List.setIfInBounds_toArray, List.set_cons_zero, List.set_cons_succ]
          refine wpAnyH_take (i := 19) (oi := ⟨some 70, _, _, _, _, _⟩) (v := ?_) rfl (by kernel_rfl) (by kernel_rfl) (by kernel_rfl) (fun _ _ _ h => h) (Or.inl ⟨by kernel_rfl, ?_⟩) (by assumption) ?_
          rotate_left
          · (intro w hSw; (try dsimp only at hSw); go_simp; try (with_reducible rfl))
          try simp only [Act.put, List.setIfInBounds_toArray, List.set_cons_zero, List.set_cons_succ]
          refine wpAnyH_take (i := 20) (oi := ⟨some 71, _, _, _, _, _⟩) (v := ?_) rfl (by kernel_rfl) (by kernel_rfl) (by kernel_rfl) (fun _ _ _ h => h) (Or.inl ⟨by kernel_rfl, ?_⟩) (by assumption) ?_
          rotate_left
          · (intro w hSw; (try dsimp only at hSw); go_simp; try (with_reducible rfl))
          try simp only [Act.put, List.setIfInBounds_toArray, List.set_cons_zero, List.set_cons_succ]
          refine wpAnyH_done (by kernel_rfl) ?_ _
          have L7 := Lib.hid (L2.out.trans (((Below.refl W2.heap.size W2).drew.trans hb7).mono L2.out.size))
          have Z7 := Lib.hid (Z2.out.drew.below hb7)
          clear hb7
          repeat clear hHeld
          go_wp2
          go_roundw
          case rel => exact ⟨j + 1, by omega, by rw [show (j + 1) * 2 = p + 2 by have := HPP.out; omega]; go_num, HP2, Z7, L7⟩
          case measure => (have := HPP.out; simp [intOf]; try omega)
end Go.Proofs.Ytkgbkgonlopciaa

/- The walks of SameSeg. -/
import Derived.Test.YtkgbkgonlopciaaK9
import Derived.Test.YtkgbkgonlopciaaK10
import Derived.Test.YtkgbkgonlopciaaA12
import Derived.Deep.Cut
import Derived.Outline
import Derived.Deep.QuietTactic
import Derived.BigQuiet
import Derived.Deep.RegionHeld
namespace Go.Proofs.Ytkgbkgonlopciaa
open Go.RowKit
set_option linter.unusedVariables false
set_option linter.unusedSimpArgs false
theorem os_same {a b : List OD} {n : Nat} (ha : a.length = n) (hb : b.length = n) (h : ∀ j, j < n → a[j]? = b[j]?) : a = b := by
  apply List.ext_getElem?
  intro i
  by_cases hi : i < n
  · exact h i hi
  · rw [List.getElem?_eq_none (by omega), List.getElem?_eq_none (by omega)]
/-- whether two segments are the same -/
def GivesSame (x y : SD) (w : World) (e : Ending) (w' : World) : Prop := ∃ r : Bool, e = .returned (.bool r) ∧ (r = true ↔ x = y) ∧ Below w.heap.size w w'
theorem GivesSame.no {x y : SD} {w w' : World} {e : Ending} (he : e = .returned (.bool false)) (h : x ≠ y) (hb : Below w.heap.size w w') : GivesSame x y w e w' := ⟨false, he, by simp [h], hb⟩
theorem GivesSame.yes {x y : SD} {w w' : World} {e : Ending} (he : e = .returned (.bool true)) (h : x = y) (hb : Below w.heap.size w w') : GivesSame x y w e w' := ⟨true, he, by simp [h], hb⟩
set_option maxRecDepth 100000 in
set_option maxHeartbeats 6400000 in
theorem sameSeg_i (x y : SD) (A B : Option Addr) (n m c1 c2 : Nat) (ivs jvs : List Value) (w : World) (h1 : RdO w (.slice A n c1) n x.ops ivs) (h2 : RdO w (.slice B m c2) m y.ops jvs) :
    Calls Try.prog 24 #[vx x (.slice A n c1), vx y (.slice B m c2)] w (GivesSame x y w) := by
  obtain ⟨fr1, tt1, po1, pe1, sq1, ak1, fg1, os1, da1⟩ := x
  obtain ⟨fr2, tt2, po2, pe2, sq2, ak2, fg2, os2, da2⟩ := y
  dsimp only at *
  have HL1 := Lib.hid h1.lo
  have HL2 := Lib.hid h2.lo
  obtain ⟨_, _, e1, hm1⟩ := h1.shape
  obtain ⟨_, _, e2, hm2⟩ := h2.shape
  unfold maxLen at hm1 hm2
  have H1 := Lib.hid h1
  have H2 := Lib.hid h2
  clear h1 h2 e1 e2
  go_enter Try.func24, Try.ntmps24
  go_upto_region 1 with (fail)
  obtain ⟨W, hW⟩ : ∃ W, W = (w.alloc (.cells (vxC ⟨fr1, tt1, po1, pe1, sq1, ak1, fg1, os1, da1⟩ (.slice A n c1)).toArray 37)).alloc (.cells (vxC ⟨fr2, tt2, po2, pe2, sq2, ak2, fg2, os2, da2⟩ (.slice B m c2)).toArray 37) := ⟨_, rfl⟩
  change Code.wp _ _ _ _ ((w.alloc (.cells (vxC ⟨fr1, tt1, po1, pe1, sq1, ak1, fg1, os1, da1⟩ (.slice A n c1)).toArray 37)).alloc (.cells (vxC ⟨fr2, tt2, po2, pe2, sq2, ak2, fg2, os2, da2⟩ (.slice B m c2)).toArray 37))
  rw [← hW]
  have L0 := Lib.hid (((Below.refl w.heap.size w).alloc (Nat.le_refl _) (.cells (vxC ⟨fr1, tt1, po1, pe1, sq1, ak1, fg1, os1, da1⟩ (.slice A n c1)).toArray 37)).alloc (by simp) (.cells (vxC ⟨fr2, tt2, po2, pe2, sq2, ak2, fg2, os2, da2⟩ (.slice B m c2)).toArray 37))
  have X0 := Lib.hid ((Bx.new w (vxC ⟨fr1, tt1, po1, pe1, sq1, ak1, fg1, os1, da1⟩ (.slice A n c1)).toArray 37).alloc (.cells (vxC ⟨fr2, tt2, po2, pe2, sq2, ak2, fg2, os2, da2⟩ (.slice B m c2)).toArray 37))
  have Y0 := Lib.hid (Bx.new (w.alloc (.cells (vxC ⟨fr1, tt1, po1, pe1, sq1, ak1, fg1, os1, da1⟩ (.slice A n c1)).toArray 37)) (vxC ⟨fr2, tt2, po2, pe2, sq2, ak2, fg2, os2, da2⟩ (.slice B m c2)).toArray 37)
  rw [← hW] at L0 X0 Y0
  simp only [World.size_alloc] at Y0
  clear hW
  have x0 : W.cell? ⟨w.heap.size, 0, none⟩ = some (.int .i64 fr1) := X0.out.2 0 _ rfl
  have y0 : W.cell? ⟨w.heap.size + 1, 0, none⟩ = some (.int .i64 fr2) := Y0.out.2 0 _ rfl
  have x1 : W.cell? ⟨w.heap.size, 1, none⟩ = some (.int .i64 tt1) := X0.out.2 1 _ rfl
  have y1 : W.cell? ⟨w.heap.size + 1, 1, none⟩ = some (.int .i64 tt2) := Y0.out.2 1 _ rfl
  have x2 : W.cell? ⟨w.heap.size, 2, none⟩ = some (.int .i64 po1) := X0.out.2 2 _ rfl
  have y2 : W.cell? ⟨w.heap.size + 1, 2, none⟩ = some (.int .i64 po2) := Y0.out.2 2 _ rfl
  have x3 : W.cell? ⟨w.heap.size, 3, none⟩ = some (.int .i64 pe1) := X0.out.2 3 _ rfl
  have y3 : W.cell? ⟨w.heap.size + 1, 3, none⟩ = some (.int .i64 pe2) := Y0.out.2 3 _ rfl
  have x4 : W.cell? ⟨w.heap.size, 4, none⟩ = some (.int .i64 sq1) := X0.out.2 4 _ rfl
  have y4 : W.cell? ⟨w.heap.size + 1, 4, none⟩ = some (.int .i64 sq2) := Y0.out.2 4 _ rfl
  have x5 : W.cell? ⟨w.heap.size, 5, none⟩ = some (.int .i64 ak1) := X0.out.2 5 _ rfl
  have y5 : W.cell? ⟨w.heap.size + 1, 5, none⟩ = some (.int .i64 ak2) := Y0.out.2 5 _ rfl
  have x6 : W.cell? ⟨w.heap.size, 6, none⟩ = some (.int .i64 fg1) := X0.out.2 6 _ rfl
  have y6 : W.cell? ⟨w.heap.size + 1, 6, none⟩ = some (.int .i64 fg2) := Y0.out.2 6 _ rfl
  have x7 : W.cell? ⟨w.heap.size, 7, none⟩ = some (.slice A n c1) := X0.out.2 7 _ rfl
  have y7 : W.cell? ⟨w.heap.size + 1, 7, none⟩ = some (.slice B m c2) := Y0.out.2 7 _ rfl
  have x8 : W.cell? ⟨w.heap.size, 8, none⟩ = some (.string da1) := X0.out.2 8 _ rfl
  have y8 : W.cell? ⟨w.heap.size + 1, 8, none⟩ = some (.string da2) := Y0.out.2 8 _ rfl
  by_cases e_fr : fr1 = fr2
  case neg =>
    have q1 : (fr1 == fr2) = false := by simp [e_fr]
    have q2 : (fr1 != fr2) = true := by simp [e_fr]
    have HN : Hid ((⟨fr1, tt1, po1, pe1, sq1, ak1, fg1, os1, da1⟩ : SD) ≠ ⟨fr2, tt2, po2, pe2, sq2, ak2, fg2, os2, da2⟩) := Lib.hid (fun e => e_fr (by injection e))
    clear e_fr
    go_wp2
    go_ret
    exact .no rfl HN.out L0.out
  subst e_fr
  by_cases e_tt : tt1 = tt2
  case neg =>
    have q1 : (tt1 == tt2) = false := by simp [e_tt]
    have q2 : (tt1 != tt2) = true := by simp [e_tt]
    have HN : Hid ((⟨fr1, tt1, po1, pe1, sq1, ak1, fg1, os1, da1⟩ : SD) ≠ ⟨fr1, tt2, po2, pe2, sq2, ak2, fg2, os2, da2⟩) := Lib.hid (fun e => e_tt (by injection e))
    clear e_tt
    go_wp2
    go_ret
    exact .no rfl HN.out L0.out
  subst e_tt
  by_cases e_po : po1 = po2
  case neg =>
    have q1 : (po1 == po2) = false := by simp [e_po]
    have q2 : (po1 != po2) = true := by simp [e_po]
    have HN : Hid ((⟨fr1, tt1, po1, pe1, sq1, ak1, fg1, os1, da1⟩ : SD) ≠ ⟨fr1, tt1, po2, pe2, sq2, ak2, fg2, os2, da2⟩) := Lib.hid (fun e => e_po (by injection e))
    clear e_po
    go_wp2
    go_ret
    exact .no rfl HN.out L0.out
  subst e_po
  by_cases e_pe : pe1 = pe2
  case neg =>
    have q1 : (pe1 == pe2) = false := by simp [e_pe]
    have q2 : (pe1 != pe2) = true := by simp [e_pe]
    have HN : Hid ((⟨fr1, tt1, po1, pe1, sq1, ak1, fg1, os1, da1⟩ : SD) ≠ ⟨fr1, tt1, po1, pe2, sq2, ak2, fg2, os2, da2⟩) := Lib.hid (fun e => e_pe (by injection e))
    clear e_pe
    go_wp2
    go_ret
    exact .no rfl HN.out L0.out
  subst e_pe
  by_cases e_sq : sq1 = sq2
  case neg =>
    have q1 : (sq1 == sq2) = false := by simp [e_sq]
    have q2 : (sq1 != sq2) = true := by simp [e_sq]
    have HN : Hid ((⟨fr1, tt1, po1, pe1, sq1, ak1, fg1, os1, da1⟩ : SD) ≠ ⟨fr1, tt1, po1, pe1, sq2, ak2, fg2, os2, da2⟩) := Lib.hid (fun e => e_sq (by injection e))
    clear e_sq
    go_wp2
    go_ret
    exact .no rfl HN.out L0.out
  subst e_sq
  by_cases e_ak : ak1 = ak2
  case neg =>
    have q1 : (ak1 == ak2) = false := by simp [e_ak]
    have q2 : (ak1 != ak2) = true := by simp [e_ak]
    have HN : Hid ((⟨fr1, tt1, po1, pe1, sq1, ak1, fg1, os1, da1⟩ : SD) ≠ ⟨fr1, tt1, po1, pe1, sq1, ak2, fg2, os2, da2⟩) := Lib.hid (fun e => e_ak (by injection e))
    clear e_ak
    go_wp2
    go_ret
    exact .no rfl HN.out L0.out
  subst e_ak
  by_cases e_fg : fg1 = fg2
  case neg =>
    have q1 : (fg1 == fg2) = false := by simp [e_fg]
    have q2 : (fg1 != fg2) = true := by simp [e_fg]
    have HN : Hid ((⟨fr1, tt1, po1, pe1, sq1, ak1, fg1, os1, da1⟩ : SD) ≠ ⟨fr1, tt1, po1, pe1, sq1, ak1, fg2, os2, da2⟩) := Lib.hid (fun e => e_fg (by injection e))
    clear e_fg
    go_wp2
    go_ret
    exact .no rfl HN.out L0.out
  subst e_fg
  by_cases e_da : da1 = da2
  case neg =>
    have q1 : (da1.toList == da2.toList) = false := by rw [ByteArray.toList_eq, ByteArray.toList_eq]; exact beq_eq_false_iff_ne.2 (fun e => e_da (by rw [← str_of da1, ← str_of da2, e]))
    have q2 : (da1.toList != da2.toList) = true := by rw [bne, q1]; rfl
    have HN : Hid ((⟨fr1, tt1, po1, pe1, sq1, ak1, fg1, os1, da1⟩ : SD) ≠ ⟨fr1, tt1, po1, pe1, sq1, ak1, fg1, os2, da2⟩) := Lib.hid (fun e => e_da (by injection e))
    clear e_da
    go_wp2
    go_ret
    exact .no rfl HN.out L0.out
  subst e_da
  by_cases hnm : n = m
  case neg =>
    have q1 : ((n : Int) == (m : Int)) = false := by simp; omega
    have q2 : ((n : Int) != (m : Int)) = true := by simp; omega
    have HN : Hid ((⟨fr1, tt1, po1, pe1, sq1, ak1, fg1, os1, da1⟩ : SD) ≠ ⟨fr1, tt1, po1, pe1, sq1, ak1, fg1, os2, da1⟩) := Lib.hid (fun e => hnm (by injection e with _ _ _ _ _ _ _ e; rw [← HL1.out, ← HL2.out, e]))
    go_wp2
    go_ret
    exact .no rfl HN.out L0.out
  subst hnm
  go_wp2
  clear x0 x1 x2 x3 x4 x5 x6 x7 x8 y0 y1 y2 y3 y4 y5 y6 y7 y8
  go_loopw [72] (fun i wr => ∃ k : Nat, k ≤ n ∧ i = .int .i64 (k : Int) ∧ Hid (∀ j, j < k → os1[j]? = os2[j]?) ∧ Hid (Bx wr w.heap.size (vxC ⟨fr1, tt1, po1, pe1, sq1, ak1, fg1, os1, da1⟩ (.slice A n c1))) ∧ Hid (Bx wr (w.heap.size + 1) (vxC ⟨fr1, tt1, po1, pe1, sq1, ak1, fg1, os2, da1⟩ (.slice B n c2))) ∧ Hid (Below w.heap.size w wr)) (fun i _ => n - (intOf i).toNat)
  case atStart => exact ⟨0, Nat.zero_le _, rfl, Lib.hid (fun j hj => absurd hj (Nat.not_lt_zero _)), X0, Y0, L0⟩
  case round =>
    clear X0 Y0 L0
    obtain ⟨k, hk, rfl, HP, XW, YW, HN⟩ := hrel
    have x7 : wr.cell? ⟨w.heap.size, 7, none⟩ = some (.slice A n c1) := XW.out.2 7 _ rfl
    have y7 : wr.cell? ⟨w.heap.size + 1, 7, none⟩ = some (.slice B n c2) := YW.out.2 7 _ rfl
    by_cases hlt : k < n
    · obtain ⟨b1, o1, c1', e0⟩ := H1.out.full (by omega)
      obtain ⟨b2, o2, c2', e1⟩ := H2.out.full (by omega)
      simp only [Value.slice.injEq] at e0 e1
      obtain ⟨rfl, _, rfl⟩ := e0
      obtain ⟨rfl, _, rfl⟩ := e1
      obtain ⟨o, iv, ho, hiv, hB, hR⟩ := (H1.out.below HN.out).at_ hlt
      obtain ⟨o', jv, ho', hjv, hB', hR'⟩ := (H2.out.below HN.out).at_ hlt
      have XB := Lib.hid hB
      have XR := Lib.hid hR
      have YB := Lib.hid hB'
      have YR := Lib.hid hR'
      have XO := Lib.hid ho
      have YO := Lib.hid ho'
      obtain ⟨b, hb⟩ : ∃ b, b = sameOD o o' := ⟨_, rfl⟩
      have HB := Lib.hid hb
      clear hB hR hB' hR' ho ho' hiv hjv hb
      go_wp2_with fail
      refine wp_region_held_drew (S := fun w' => Bo w' b1 (o1 + k * 14) (voC o iv) ∧ Bo w' b2 (o2 + k * 14) (voC o' jv) ∧ w'.cell? ⟨w.heap.size, 7, none⟩ = some (.slice (some ⟨b1, o1, none⟩) n c1) ∧ w'.cell? ⟨w.heap.size + 1, 7, none⟩ = some (.slice (some ⟨b2, o2, none⟩) n c2) ∧ Below wr.heap.size wr w') (by kernel_rfl) ⟨XB.out.drew, YB.out.drew, x7, y7, (Below.refl _ wr).drew⟩ (fun hHeld => ?_)
      refine wpAnyH_take (i := 0) (oi := ⟨some 75, _, _, _, _, _⟩) (v := ?_) rfl (by kernel_rfl) (by kernel_rfl) (by kernel_rfl) (fun _ _ _ h => h) (Or.inl ⟨by kernel_rfl, ?_⟩) (by assumption) ?_
      rotate_left
      · (intro w hSw; (try dsimp only at hSw); go_simp; try (with_reducible rfl))
      try simp only [Act.put, List.setIfInBounds_toArray, List.set_cons_zero, List.set_cons_succ]
      refine wpAnyH_take (i := 1) (oi := ⟨some 76, _, _, _, _, _⟩) (v := ?_) rfl (by kernel_rfl) (by kernel_rfl) (by kernel_rfl) (fun _ _ _ h => h) (Or.inl ⟨by kernel_rfl, ?_⟩) (by assumption) ?_
      rotate_left
      · (intro w hSw; (try dsimp only at hSw); go_simp; try (with_reducible rfl))
      try simp only [Act.put, List.setIfInBounds_toArray, List.set_cons_zero, List.set_cons_succ]
      refine wpAnyH_take (i := 2) (oi := ⟨some 77, _, _, _, _, _⟩) (v := ?_) rfl (by kernel_rfl) (by kernel_rfl) (by kernel_rfl) (fun _ _ _ h => h) (Or.inl ⟨by kernel_rfl, ?_⟩) (by assumption) ?_
      rotate_left
      · (intro w hSw; (try dsimp only at hSw); go_simp; try (with_reducible rfl))
      try simp only [Act.put, List.setIfInBounds_toArray, List.set_cons_zero, List.set_cons_succ]
      refine wpAnyH_take (i := 3) (oi := ⟨some 78, _, _, _, _, _⟩) (v := ?_) rfl (by kernel_rfl) (by kernel_rfl) (by kernel_rfl) (fun _ _ _ h => h) (Or.inl ⟨by kernel_rfl, ?_⟩) (by assumption) ?_
      rotate_left
      · (intro w hSw; (try dsimp only at hSw); go_simp; try (with_reducible rfl))
      try simp only [Act.put, List.setIfInBounds_toArray, List.set_cons_zero, List.set_cons_succ]
      refine wpAnyH_take (i := 4) (oi := ⟨some 79, _, _, _, _, _⟩) rfl (by kernel_rfl) (by kernel_rfl) (by kernel_rfl) (fun _ _ _ h => h) (yields_optA (by kernel_rfl) rfl (by rfl) (fun w h => h.1)) (by assumption) ?_
      try simp only [Act.put, List.setIfInBounds_toArray, List.set_cons_zero, List.set_cons_succ]
      refine wpAnyH_take (i := 5) (oi := ⟨some 80, _, _, _, _, _⟩) (v := ?_) rfl (by kernel_rfl) (by kernel_rfl) (by kernel_rfl) (fun _ _ _ h => h) (Or.inl ⟨by kernel_rfl, ?_⟩) (by assumption) ?_
      rotate_left
      · (intro w hSw; (try dsimp only at hSw); go_simp; try (with_reducible rfl))
      try simp only [Act.put, List.setIfInBounds_toArray, List.set_cons_zero, List.set_cons_succ]
      refine wpAnyH_take (i := 6) (oi := ⟨some 81, _, _, _, _, _⟩) (v := ?_) rfl (by kernel_rfl) (by kernel_rfl) (by kernel_rfl) (fun _ _ _ h => h) (Or.inl ⟨by kernel_rfl, ?_⟩) (by assumption) ?_
      rotate_left
      · (intro w hSw; (try dsimp only at hSw); go_simp; try (with_reducible rfl))
      try simp only [Act.put, List.setIfInBounds_toArray, List.set_cons_zero, List.set_cons_succ]
      refine wpAnyH_take (i := 7) (oi := ⟨some 82, _, _, _, _, _⟩) (v := ?_) rfl (by kernel_rfl) (by kernel_rfl) (by kernel_rfl) (fun _ _ _ h => h) (Or.inl ⟨by kernel_rfl, ?_⟩) (by assumption) ?_
      rotate_left
      · (intro w hSw; (try dsimp only at hSw); go_simp; try (with_reducible rfl))
      try simp only [Act.put, List.setIfInBounds_toArray, List.set_cons_zero, List.set_cons_succ]
      refine wpAnyH_take (i := 8) (oi := ⟨some 83, _, _, _, _, _⟩) (v := ?_) rfl (by kernel_rfl) (by kernel_rfl) (by kernel_rfl) (fun _ _ _ h => h) (Or.inl ⟨by kernel_rfl, ?_⟩) (by assumption) ?_
      rotate_left
      · (intro w hSw; (try dsimp only at hSw); go_simp; try (with_reducible rfl))
      try simp only [Act.put, List.setIfInBounds_toArray, List.set_cons_zero, List.set_cons_succ]
      refine wpAnyH_take (i := 9) (oi := ⟨some 84, _, _, _, _, _⟩) rfl (by kernel_rfl) (by kernel_rfl) (by kernel_rfl) (fun _ _ _ h => h) (yields_optA (by kernel_rfl) rfl (by rfl) (fun w h => h.2.1)) (by assumption) ?_
      try simp only [Act.put, List.setIfInBounds_toArray, List.set_cons_zero, List.set_cons_succ]
      refine wpAnyH_ready (rs := [10]) (by kernel_rfl) (by simp) ?_
      refine AllReadyH.cons (o := ⟨some 85, _, _, _, _, _⟩) rfl (fun K hK => ?_) AllReadyH.nil
      go_simp
      (go_at_call 19; refine (sameOpt_i o o' _ _ _ _ _ (XR.out.below (Below.refl _ wr).drew) (YR.out.below (Below.refl _ wr).drew)).mono ?_; rw [← HB.out]; rintro e w2 ⟨rfl, hb2⟩)
      try go_wp2_with fail
      refine hK.out _ _ ?_ (fun hHeld => ?_)
      · exact ⟨XB.out.drew.below hb2, YB.out.drew.below hb2, (XW.out.drew.below hb2).2 7 _ rfl, (YW.out.drew.below hb2).2 7 _ rfl, (Below.refl _ wr).drew.trans hb2⟩
      clear hK K
      try simp only [Act.put, List.setIfInBounds_toArray, List.set_cons_zero, List.set_cons_succ]
      have HN2 := Lib.hid (HN.out.trans (((Below.refl _ wr).drew.trans hb2).mono HN.out.size))
      have XW2 := Lib.hid (XW.out.drew.below hb2)
      have YW2 := Lib.hid (YW.out.drew.below hb2)
      clear hb2 x7 y7
      cases b
      · skip
        refine wpAnyH_take (i := 11) (oi := ⟨some 86, _, _, _, _, _⟩) (v := ?_) rfl (by kernel_rfl) (by kernel_rfl) (by kernel_rfl) (fun _ _ _ h => h) (Or.inl ⟨by kernel_rfl, ?_⟩) (by assumption) ?_
        rotate_left
        · (intro w hSw; (try dsimp only at hSw); go_simp; try (with_reducible rfl))
        try simp only [Act.put, List.setIfInBounds_toArray, List.set_cons_zero, List.set_cons_succ]
        refine wpAnyH_done (by kernel_rfl) ?_ _
        repeat clear hHeld
        have HNo : Hid (os1 ≠ os2) := Lib.hid (fun e => by
          have h1 := XO.out
          rw [e, YO.out] at h1
          obtain rfl := Option.some.inj h1
          have h2 := HB.out
          rw [(sameOD_iff _ _).2 rfl] at h2
          cases h2)
        go_wp2
        go_ret
        exact .no rfl (fun e => HNo.out (by injection e)) HN2.out
      · skip
        refine wpAnyH_take (i := 11) (oi := ⟨some 86, _, _, _, _, _⟩) (v := ?_) rfl (by kernel_rfl) (by kernel_rfl) (by kernel_rfl) (fun _ _ _ h => h) (Or.inl ⟨by kernel_rfl, ?_⟩) (by assumption) ?_
        rotate_left
        · (intro w hSw; (try dsimp only at hSw); go_simp; try (with_reducible rfl))
        try simp only [Act.put, List.setIfInBounds_toArray, List.set_cons_zero, List.set_cons_succ]
        refine wpAnyH_done (by kernel_rfl) ?_ _
        repeat clear hHeld
        have HP2 : Hid (∀ j, j < k + 1 → os1[j]? = os2[j]?) := Lib.hid (fun j hj => by
          by_cases e : j = k
          · subst e
            rw [XO.out, YO.out, (sameOD_iff _ _).1 HB.out.symm]
          · exact HP.out j (by omega))
        go_wp2
        go_roundw
        case rel => exact ⟨k + 1, by omega, by go_num, HP2, XW2, YW2, HN2⟩
        case measure => (simp [intOf]; try omega)
    · obtain rfl : k = n := by omega
      have HE : Hid (os1 = os2) := Lib.hid (os_same HL1.out HL2.out HP.out)
      go_wp2
      go_ret
      exact .yes rfl (by rw [HE.out]) HN.out
set_option maxRecDepth 100000 in
set_option maxHeartbeats 6400000 in
theorem sameSeg_s (x y : SD) (A B : Option Addr) (n m c1 c2 : Nat) (ivs jvs : List Value) (w : World) (h1 : RdO w (.slice A n c1) n x.ops ivs) (h2 : RdO w (.slice B m c2) m y.ops jvs) :
    Calls Try.prog 22 #[vx x (.slice A n c1), vx y (.slice B m c2)] w (GivesSame x y w) := by
  obtain ⟨fr1, tt1, po1, pe1, sq1, ak1, fg1, os1, da1⟩ := x
  obtain ⟨fr2, tt2, po2, pe2, sq2, ak2, fg2, os2, da2⟩ := y
  dsimp only at *
  have HL1 := Lib.hid h1.lo
  have HL2 := Lib.hid h2.lo
  obtain ⟨_, _, e1, hm1⟩ := h1.shape
  obtain ⟨_, _, e2, hm2⟩ := h2.shape
  unfold maxLen at hm1 hm2
  have H1 := Lib.hid h1
  have H2 := Lib.hid h2
  clear h1 h2 e1 e2
  go_enter Try.func22, Try.ntmps22
  go_upto_region 1 with (fail)
  obtain ⟨W, hW⟩ : ∃ W, W = (w.alloc (.cells (vxC ⟨fr1, tt1, po1, pe1, sq1, ak1, fg1, os1, da1⟩ (.slice A n c1)).toArray 37)).alloc (.cells (vxC ⟨fr2, tt2, po2, pe2, sq2, ak2, fg2, os2, da2⟩ (.slice B m c2)).toArray 37) := ⟨_, rfl⟩
  change Code.wp _ _ _ _ ((w.alloc (.cells (vxC ⟨fr1, tt1, po1, pe1, sq1, ak1, fg1, os1, da1⟩ (.slice A n c1)).toArray 37)).alloc (.cells (vxC ⟨fr2, tt2, po2, pe2, sq2, ak2, fg2, os2, da2⟩ (.slice B m c2)).toArray 37))
  rw [← hW]
  have L0 := Lib.hid (((Below.refl w.heap.size w).alloc (Nat.le_refl _) (.cells (vxC ⟨fr1, tt1, po1, pe1, sq1, ak1, fg1, os1, da1⟩ (.slice A n c1)).toArray 37)).alloc (by simp) (.cells (vxC ⟨fr2, tt2, po2, pe2, sq2, ak2, fg2, os2, da2⟩ (.slice B m c2)).toArray 37))
  have X0 := Lib.hid ((Bx.new w (vxC ⟨fr1, tt1, po1, pe1, sq1, ak1, fg1, os1, da1⟩ (.slice A n c1)).toArray 37).alloc (.cells (vxC ⟨fr2, tt2, po2, pe2, sq2, ak2, fg2, os2, da2⟩ (.slice B m c2)).toArray 37))
  have Y0 := Lib.hid (Bx.new (w.alloc (.cells (vxC ⟨fr1, tt1, po1, pe1, sq1, ak1, fg1, os1, da1⟩ (.slice A n c1)).toArray 37)) (vxC ⟨fr2, tt2, po2, pe2, sq2, ak2, fg2, os2, da2⟩ (.slice B m c2)).toArray 37)
  rw [← hW] at L0 X0 Y0
  simp only [World.size_alloc] at Y0
  clear hW
  have x7 : W.cell? ⟨w.heap.size, 7, none⟩ = some (.slice A n c1) := X0.out.2 7 _ rfl
  have y7 : W.cell? ⟨w.heap.size + 1, 7, none⟩ = some (.slice B m c2) := Y0.out.2 7 _ rfl
  by_cases hnm : n = m
  case neg =>
    have q1 : ((n : Int) == (m : Int)) = false := by simp; omega
    have q2 : ((n : Int) != (m : Int)) = true := by simp; omega
    have HN : Hid ((⟨fr1, tt1, po1, pe1, sq1, ak1, fg1, os1, da1⟩ : SD) ≠ ⟨fr2, tt2, po2, pe2, sq2, ak2, fg2, os2, da2⟩) := Lib.hid (fun e => hnm (by injection e with _ _ _ _ _ _ _ e; rw [← HL1.out, ← HL2.out, e]))
    go_wp2
    go_ret
    exact .no rfl HN.out L0.out
  subst hnm
  go_wp2
  clear x7 y7
  go_loopw [5] (fun i wr => ∃ k : Nat, k ≤ n ∧ i = .int .i64 (k : Int) ∧ Hid (∀ j, j < k → os1[j]? = os2[j]?) ∧ Hid (Bx wr w.heap.size (vxC ⟨fr1, tt1, po1, pe1, sq1, ak1, fg1, os1, da1⟩ (.slice A n c1))) ∧ Hid (Bx wr (w.heap.size + 1) (vxC ⟨fr2, tt2, po2, pe2, sq2, ak2, fg2, os2, da2⟩ (.slice B n c2))) ∧ Hid (Below w.heap.size w wr)) (fun i _ => n - (intOf i).toNat)
  case atStart => exact ⟨0, Nat.zero_le _, rfl, Lib.hid (fun j hj => absurd hj (Nat.not_lt_zero _)), X0, Y0, L0⟩
  case round =>
    clear X0 Y0 L0
    obtain ⟨k, hk, rfl, HP, XW, YW, HN⟩ := hrel
    have x7 : wr.cell? ⟨w.heap.size, 7, none⟩ = some (.slice A n c1) := XW.out.2 7 _ rfl
    have y7 : wr.cell? ⟨w.heap.size + 1, 7, none⟩ = some (.slice B n c2) := YW.out.2 7 _ rfl
    by_cases hlt : k < n
    · obtain ⟨b1, o1, c1', e0⟩ := H1.out.full (by omega)
      obtain ⟨b2, o2, c2', e1⟩ := H2.out.full (by omega)
      simp only [Value.slice.injEq] at e0 e1
      obtain ⟨rfl, _, rfl⟩ := e0
      obtain ⟨rfl, _, rfl⟩ := e1
      obtain ⟨o, iv, ho, hiv, hB, hR⟩ := (H1.out.below HN.out).at_ hlt
      obtain ⟨o', jv, ho', hjv, hB', hR'⟩ := (H2.out.below HN.out).at_ hlt
      have XB := Lib.hid hB
      have XR := Lib.hid hR
      have YB := Lib.hid hB'
      have YR := Lib.hid hR'
      have XO := Lib.hid ho
      have YO := Lib.hid ho'
      obtain ⟨b, hb⟩ : ∃ b, b = sameOD o o' := ⟨_, rfl⟩
      have HB := Lib.hid hb
      clear hB hR hB' hR' ho ho' hiv hjv hb
      go_wp2_with fail
      refine wp_region_held_drew (S := fun w' => Bo w' b1 (o1 + k * 14) (voC o iv) ∧ Bo w' b2 (o2 + k * 14) (voC o' jv) ∧ w'.cell? ⟨w.heap.size, 7, none⟩ = some (.slice (some ⟨b1, o1, none⟩) n c1) ∧ w'.cell? ⟨w.heap.size + 1, 7, none⟩ = some (.slice (some ⟨b2, o2, none⟩) n c2) ∧ Below wr.heap.size wr w') (by kernel_rfl) ⟨XB.out.drew, YB.out.drew, x7, y7, (Below.refl _ wr).drew⟩ (fun hHeld => ?_)
      refine wpAnyH_take (i := 0) (oi := ⟨some 20, _, _, _, _, _⟩) (v := ?_) rfl (by kernel_rfl) (by kernel_rfl) (by kernel_rfl) (fun _ _ _ h => h) (Or.inl ⟨by kernel_rfl, ?_⟩) (by assumption) ?_
      rotate_left
      · (intro w hSw; (try dsimp only at hSw); go_simp; try (with_reducible rfl))
      try simp only [Act.put, List.setIfInBounds_toArray, List.set_cons_zero, List.set_cons_succ]
      refine wpAnyH_take (i := 1) (oi := ⟨some 21, _, _, _, _, _⟩) (v := ?_) rfl (by kernel_rfl) (by kernel_rfl) (by kernel_rfl) (fun _ _ _ h => h) (Or.inl ⟨by kernel_rfl, ?_⟩) (by assumption) ?_
      rotate_left
      · (intro w hSw; (try dsimp only at hSw); go_simp; try (with_reducible rfl))
      try simp only [Act.put, List.setIfInBounds_toArray, List.set_cons_zero, List.set_cons_succ]
      refine wpAnyH_take (i := 2) (oi := ⟨some 22, _, _, _, _, _⟩) (v := ?_) rfl (by kernel_rfl) (by kernel_rfl) (by kernel_rfl) (fun _ _ _ h => h) (Or.inl ⟨by kernel_rfl, ?_⟩) (by assumption) ?_
      rotate_left
      · (intro w hSw; (try dsimp only at hSw); go_simp; try (with_reducible rfl))
      try simp only [Act.put, List.setIfInBounds_toArray, List.set_cons_zero, List.set_cons_succ]
      refine wpAnyH_take (i := 3) (oi := ⟨some 23, _, _, _, _, _⟩) (v := ?_) rfl (by kernel_rfl) (by kernel_rfl) (by kernel_rfl) (fun _ _ _ h => h) (Or.inl ⟨by kernel_rfl, ?_⟩) (by assumption) ?_
      rotate_left
      · (intro w hSw; (try dsimp only at hSw); go_simp; try (with_reducible rfl))
      try simp only [Act.put, List.setIfInBounds_toArray, List.set_cons_zero, List.set_cons_succ]
      refine wpAnyH_take (i := 4) (oi := ⟨some 24, _, _, _, _, _⟩) rfl (by kernel_rfl) (by kernel_rfl) (by kernel_rfl) (fun _ _ _ h => h) (yields_optA (by kernel_rfl) rfl (by rfl) (fun w h => h.1)) (by assumption) ?_
      try simp only [Act.put, List.setIfInBounds_toArray, List.set_cons_zero, List.set_cons_succ]
      refine wpAnyH_take (i := 5) (oi := ⟨some 25, _, _, _, _, _⟩) (v := ?_) rfl (by kernel_rfl) (by kernel_rfl) (by kernel_rfl) (fun _ _ _ h => h) (Or.inl ⟨by kernel_rfl, ?_⟩) (by assumption) ?_
      rotate_left
      · (intro w hSw; (try dsimp only at hSw); go_simp; try (with_reducible rfl))
      try simp only [Act.put, List.setIfInBounds_toArray, List.set_cons_zero, List.set_cons_succ]
      refine wpAnyH_take (i := 6) (oi := ⟨some 26, _, _, _, _, _⟩) (v := ?_) rfl (by kernel_rfl) (by kernel_rfl) (by kernel_rfl) (fun _ _ _ h => h) (Or.inl ⟨by kernel_rfl, ?_⟩) (by assumption) ?_
      rotate_left
      · (intro w hSw; (try dsimp only at hSw); go_simp; try (with_reducible rfl))
      try simp only [Act.put, List.setIfInBounds_toArray, List.set_cons_zero, List.set_cons_succ]
      refine wpAnyH_take (i := 7) (oi := ⟨some 27, _, _, _, _, _⟩) (v := ?_) rfl (by kernel_rfl) (by kernel_rfl) (by kernel_rfl) (fun _ _ _ h => h) (Or.inl ⟨by kernel_rfl, ?_⟩) (by assumption) ?_
      rotate_left
      · (intro w hSw; (try dsimp only at hSw); go_simp; try (with_reducible rfl))
      try simp only [Act.put, List.setIfInBounds_toArray, List.set_cons_zero, List.set_cons_succ]
      refine wpAnyH_take (i := 8) (oi := ⟨some 28, _, _, _, _, _⟩) (v := ?_) rfl (by kernel_rfl) (by kernel_rfl) (by kernel_rfl) (fun _ _ _ h => h) (Or.inl ⟨by kernel_rfl, ?_⟩) (by assumption) ?_
      rotate_left
      · (intro w hSw; (try dsimp only at hSw); go_simp; try (with_reducible rfl))
      try simp only [Act.put, List.setIfInBounds_toArray, List.set_cons_zero, List.set_cons_succ]
      refine wpAnyH_take (i := 9) (oi := ⟨some 29, _, _, _, _, _⟩) rfl (by kernel_rfl) (by kernel_rfl) (by kernel_rfl) (fun _ _ _ h => h) (yields_optA (by kernel_rfl) rfl (by rfl) (fun w h => h.2.1)) (by assumption) ?_
      try simp only [Act.put, List.setIfInBounds_toArray, List.set_cons_zero, List.set_cons_succ]
      refine wpAnyH_ready (rs := [10]) (by kernel_rfl) (by simp) ?_
      refine AllReadyH.cons (o := ⟨some 30, _, _, _, _, _⟩) rfl (fun K hK => ?_) AllReadyH.nil
      go_simp
      (go_at_call 17; refine (sameOpt_s o o' _ _ _ _ _ (XR.out.below (Below.refl _ wr).drew) (YR.out.below (Below.refl _ wr).drew)).mono ?_; rw [← HB.out]; rintro e w2 ⟨rfl, hb2⟩)
      try go_wp2_with fail
      refine hK.out _ _ ?_ (fun hHeld => ?_)
      · exact ⟨XB.out.drew.below hb2, YB.out.drew.below hb2, (XW.out.drew.below hb2).2 7 _ rfl, (YW.out.drew.below hb2).2 7 _ rfl, (Below.refl _ wr).drew.trans hb2⟩
      clear hK K
      try simp only [Act.put, List.setIfInBounds_toArray, List.set_cons_zero, List.set_cons_succ]
      have HN2 := Lib.hid (HN.out.trans (((Below.refl _ wr).drew.trans hb2).mono HN.out.size))
      have XW2 := Lib.hid (XW.out.drew.below hb2)
      have YW2 := Lib.hid (YW.out.drew.below hb2)
      clear hb2 x7 y7
      cases b
      · skip
        refine wpAnyH_take (i := 11) (oi := ⟨some 31, _, _, _, _, _⟩) (v := ?_) rfl (by kernel_rfl) (by kernel_rfl) (by kernel_rfl) (fun _ _ _ h => h) (Or.inl ⟨by kernel_rfl, ?_⟩) (by assumption) ?_
        rotate_left
        · (intro w hSw; (try dsimp only at hSw); go_simp; try (with_reducible rfl))
        try simp only [Act.put, List.setIfInBounds_toArray, List.set_cons_zero, List.set_cons_succ]
        refine wpAnyH_done (by kernel_rfl) ?_ _
        repeat clear hHeld
        have HNo : Hid (os1 ≠ os2) := Lib.hid (fun e => by
          have h1 := XO.out
          rw [e, YO.out] at h1
          obtain rfl := Option.some.inj h1
          have h2 := HB.out
          rw [(sameOD_iff _ _).2 rfl] at h2
          cases h2)
        go_wp2
        go_ret
        exact .no rfl (fun e => HNo.out (by injection e)) HN2.out
      · skip
        refine wpAnyH_take (i := 11) (oi := ⟨some 31, _, _, _, _, _⟩) (v := ?_) rfl (by kernel_rfl) (by kernel_rfl) (by kernel_rfl) (fun _ _ _ h => h) (Or.inl ⟨by kernel_rfl, ?_⟩) (by assumption) ?_
        rotate_left
        · (intro w hSw; (try dsimp only at hSw); go_simp; try (with_reducible rfl))
        try simp only [Act.put, List.setIfInBounds_toArray, List.set_cons_zero, List.set_cons_succ]
        refine wpAnyH_done (by kernel_rfl) ?_ _
        repeat clear hHeld
        have HP2 : Hid (∀ j, j < k + 1 → os1[j]? = os2[j]?) := Lib.hid (fun j hj => by
          by_cases e : j = k
          · subst e
            rw [XO.out, YO.out, (sameOD_iff _ _).1 HB.out.symm]
          · exact HP.out j (by omega))
        go_wp2
        go_roundw
        case rel => exact ⟨k + 1, by omega, by go_num, HP2, XW2, YW2, HN2⟩
        case measure => (simp [intOf]; try omega)
    · obtain rfl : k = n := by omega
      have HE : Hid (os1 = os2) := Lib.hid (os_same HL1.out HL2.out HP.out)
      have x0 : wr.cell? ⟨w.heap.size, 0, none⟩ = some (.int .i64 fr1) := XW.out.2 0 _ rfl
      have y0 : wr.cell? ⟨w.heap.size + 1, 0, none⟩ = some (.int .i64 fr2) := YW.out.2 0 _ rfl
      have x1 : wr.cell? ⟨w.heap.size, 1, none⟩ = some (.int .i64 tt1) := XW.out.2 1 _ rfl
      have y1 : wr.cell? ⟨w.heap.size + 1, 1, none⟩ = some (.int .i64 tt2) := YW.out.2 1 _ rfl
      have x2 : wr.cell? ⟨w.heap.size, 2, none⟩ = some (.int .i64 po1) := XW.out.2 2 _ rfl
      have y2 : wr.cell? ⟨w.heap.size + 1, 2, none⟩ = some (.int .i64 po2) := YW.out.2 2 _ rfl
      have x3 : wr.cell? ⟨w.heap.size, 3, none⟩ = some (.int .i64 pe1) := XW.out.2 3 _ rfl
      have y3 : wr.cell? ⟨w.heap.size + 1, 3, none⟩ = some (.int .i64 pe2) := YW.out.2 3 _ rfl
      have x4 : wr.cell? ⟨w.heap.size, 4, none⟩ = some (.int .i64 sq1) := XW.out.2 4 _ rfl
      have y4 : wr.cell? ⟨w.heap.size + 1, 4, none⟩ = some (.int .i64 sq2) := YW.out.2 4 _ rfl
      have x5 : wr.cell? ⟨w.heap.size, 5, none⟩ = some (.int .i64 ak1) := XW.out.2 5 _ rfl
      have y5 : wr.cell? ⟨w.heap.size + 1, 5, none⟩ = some (.int .i64 ak2) := YW.out.2 5 _ rfl
      have x6 : wr.cell? ⟨w.heap.size, 6, none⟩ = some (.int .i64 fg1) := XW.out.2 6 _ rfl
      have y6 : wr.cell? ⟨w.heap.size + 1, 6, none⟩ = some (.int .i64 fg2) := YW.out.2 6 _ rfl
      have x8 : wr.cell? ⟨w.heap.size, 8, none⟩ = some (.string da1) := XW.out.2 8 _ rfl
      have y8 : wr.cell? ⟨w.heap.size + 1, 8, none⟩ = some (.string da2) := YW.out.2 8 _ rfl
      by_cases e_fr : fr1 = fr2
      case neg =>
        have q1 : (fr1 == fr2) = false := by simp [e_fr]
        have q2 : (fr1 != fr2) = true := by simp [e_fr]
        have HNN : Hid ((⟨fr1, tt1, po1, pe1, sq1, ak1, fg1, os1, da1⟩ : SD) ≠ ⟨fr2, tt2, po2, pe2, sq2, ak2, fg2, os2, da2⟩) := Lib.hid (fun e => e_fr (by injection e))
        clear e_fr
        go_wp2
        go_ret
        exact .no rfl HNN.out HN.out
      subst e_fr
      by_cases e_tt : tt1 = tt2
      case neg =>
        have q1 : (tt1 == tt2) = false := by simp [e_tt]
        have q2 : (tt1 != tt2) = true := by simp [e_tt]
        have HNN : Hid ((⟨fr1, tt1, po1, pe1, sq1, ak1, fg1, os1, da1⟩ : SD) ≠ ⟨fr1, tt2, po2, pe2, sq2, ak2, fg2, os2, da2⟩) := Lib.hid (fun e => e_tt (by injection e))
        clear e_tt
        go_wp2
        go_ret
        exact .no rfl HNN.out HN.out
      subst e_tt
      by_cases e_po : po1 = po2
      case neg =>
        have q1 : (po1 == po2) = false := by simp [e_po]
        have q2 : (po1 != po2) = true := by simp [e_po]
        have HNN : Hid ((⟨fr1, tt1, po1, pe1, sq1, ak1, fg1, os1, da1⟩ : SD) ≠ ⟨fr1, tt1, po2, pe2, sq2, ak2, fg2, os2, da2⟩) := Lib.hid (fun e => e_po (by injection e))
        clear e_po
        go_wp2
        go_ret
        exact .no rfl HNN.out HN.out
      subst e_po
      by_cases e_pe : pe1 = pe2
      case neg =>
        have q1 : (pe1 == pe2) = false := by simp [e_pe]
        have q2 : (pe1 != pe2) = true := by simp [e_pe]
        have HNN : Hid ((⟨fr1, tt1, po1, pe1, sq1, ak1, fg1, os1, da1⟩ : SD) ≠ ⟨fr1, tt1, po1, pe2, sq2, ak2, fg2, os2, da2⟩) := Lib.hid (fun e => e_pe (by injection e))
        clear e_pe
        go_wp2
        go_ret
        exact .no rfl HNN.out HN.out
      subst e_pe
      by_cases e_sq : sq1 = sq2
      case neg =>
        have q1 : (sq1 == sq2) = false := by simp [e_sq]
        have q2 : (sq1 != sq2) = true := by simp [e_sq]
        have HNN : Hid ((⟨fr1, tt1, po1, pe1, sq1, ak1, fg1, os1, da1⟩ : SD) ≠ ⟨fr1, tt1, po1, pe1, sq2, ak2, fg2, os2, da2⟩) := Lib.hid (fun e => e_sq (by injection e))
        clear e_sq
        go_wp2
        go_ret
        exact .no rfl HNN.out HN.out
      subst e_sq
      by_cases e_ak : ak1 = ak2
      case neg =>
        have q1 : (ak1 == ak2) = false := by simp [e_ak]
        have q2 : (ak1 != ak2) = true := by simp [e_ak]
        have HNN : Hid ((⟨fr1, tt1, po1, pe1, sq1, ak1, fg1, os1, da1⟩ : SD) ≠ ⟨fr1, tt1, po1, pe1, sq1, ak2, fg2, os2, da2⟩) := Lib.hid (fun e => e_ak (by injection e))
        clear e_ak
        go_wp2
        go_ret
        exact .no rfl HNN.out HN.out
      subst e_ak
      by_cases e_fg : fg1 = fg2
      case neg =>
        have q1 : (fg1 == fg2) = false := by simp [e_fg]
        have q2 : (fg1 != fg2) = true := by simp [e_fg]
        have HNN : Hid ((⟨fr1, tt1, po1, pe1, sq1, ak1, fg1, os1, da1⟩ : SD) ≠ ⟨fr1, tt1, po1, pe1, sq1, ak1, fg2, os2, da2⟩) := Lib.hid (fun e => e_fg (by injection e))
        clear e_fg
        go_wp2
        go_ret
        exact .no rfl HNN.out HN.out
      subst e_fg
      by_cases e_da : da1 = da2
      case neg =>
        have q1 : (da1.toList == da2.toList) = false := by rw [ByteArray.toList_eq, ByteArray.toList_eq]; exact beq_eq_false_iff_ne.2 (fun e => e_da (by rw [← str_of da1, ← str_of da2, e]))
        have q2 : (da1.toList != da2.toList) = true := by rw [bne, q1]; rfl
        have HNN : Hid ((⟨fr1, tt1, po1, pe1, sq1, ak1, fg1, os1, da1⟩ : SD) ≠ ⟨fr1, tt1, po1, pe1, sq1, ak1, fg1, os2, da2⟩) := Lib.hid (fun e => e_da (by injection e))
        clear e_da
        go_wp2
        go_ret
        exact .no rfl HNN.out HN.out
      subst e_da
      go_wp2
      go_ret
      exact .yes rfl (by rw [HE.out]) HN.out
end Go.Proofs.Ytkgbkgonlopciaa

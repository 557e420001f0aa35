/- The walks of SegOk. -/
import Derived.Test.YtkgbkgonlopciaaK9
import Derived.Test.YtkgbkgonlopciaaM7
import Derived.Test.YtkgbkgonlopciaaA21
import Derived.Test.YtkgbkgonlopciaaA2
import Derived.Deep.Cut
import Derived.Outline
import Derived.Deep.QuietTactic
import Derived.BigQuiet
import Derived.Deep.RegionHeld
namespace Go.Proofs.Ytkgbkgonlopciaa
open Go.RowKit
set_option linter.unusedVariables false
set_option linter.unusedSimpArgs false
/-- the four numbers of four bytes -/
def quad (x : SD) : List Int := [x.fr, x.tt, x.sq, x.ak]
theorem segOk_quad {x : SD} {k : Nat} (hk : k < 4) (h : inB ((quad x).getD k 0) 0 4294967295 = false) : segOk x = false := by
  unfold segOk
  match k, hk with
  | 0, _ => rw [show inB x.fr 0 4294967295 = false from h]; simp
  | 1, _ => rw [show inB x.tt 0 4294967295 = false from h]; simp
  | 2, _ => rw [show inB x.sq 0 4294967295 = false from h]; simp
  | 3, _ => rw [show inB x.ak 0 4294967295 = false from h]; simp
theorem segOk_po {x : SD} (h : inB x.po 0 65535 = false) : segOk x = false := by unfold segOk; rw [h]; simp
theorem segOk_pe {x : SD} (h : inB x.pe 0 65535 = false) : segOk x = false := by unfold segOk; rw [h]; simp
theorem segOk_fg {x : SD} (h : inB x.fg 0 15 = false) : segOk x = false := by unfold segOk; rw [h]; simp
theorem segOk_n {x : SD} (h : ¬ x.ops.length ≤ 4) : segOk x = false := by unfold segOk; rw [decide_eq_false h]; simp
theorem segOk_d {x : SD} (h : ¬ x.da.size ≤ 120) : segOk x = false := by unfold segOk; rw [decide_eq_false h]; simp
theorem segOk_o {x : SD} {o : OD} (ho : o ∈ x.ops) (h : optOk o = false) : segOk x = false := by
  unfold segOk
  rw [show x.ops.all optOk = false from ?_]
  · simp
  · rw [List.all_eq_false]
    exact ⟨o, ho, by simp [h]⟩
theorem segOk_yes {x : SD} (h4 : ∀ k, k < 4 → inB ((quad x).getD k 0) 0 4294967295 = true) (hpo : inB x.po 0 65535 = true) (hpe : inB x.pe 0 65535 = true) (hfg : inB x.fg 0 15 = true) (hn : x.ops.length ≤ 4) (hd : x.da.size ≤ 120) (ho : ∀ o ∈ x.ops, optOk o = true) : segOk x = true := by
  unfold segOk
  rw [show inB x.fr 0 4294967295 = true from h4 0 (by omega), show inB x.tt 0 4294967295 = true from h4 1 (by omega), show inB x.sq 0 4294967295 = true from h4 2 (by omega), show inB x.ak 0 4294967295 = true from h4 3 (by omega), hpo, hpe, hfg, decide_eq_true hn, decide_eq_true hd, List.all_eq_true.2 ho]
  rfl
set_option maxRecDepth 100000 in
set_option maxHeartbeats 3200000 in
theorem segOk_i (x : SD) (A : Option Addr) (n cp : Nat) (ivs : List Value) (w : World) (h : RdO w (.slice A n cp) n x.ops ivs) (hwf : x.wf) (hni : ∀ o ∈ x.ops, o.ids.length ≤ 4294967296) :
    Calls Try.prog 42 #[vx x (.slice A n cp)] w fun e w' => e = .returned (.bool (segOk x)) ∧ Below w.heap.size w w' := by
  obtain ⟨r, hr⟩ : ∃ r, r = segOk x := ⟨_, rfl⟩
  rw [← hr]
  have HR := Lib.hid hr
  have H := Lib.hid h
  have HW := Lib.hid hwf.2.2
  have HI := Lib.hid hni
  have hlo := h.lo
  have HL := Lib.hid hlo
  have hda := hwf.2.1
  obtain ⟨_, _, e0, hm⟩ := h.shape
  unfold maxLen at hda hm
  clear hr h hwf hni e0
  go_enter Try.func42, Try.ntmps42
  go_upto_region 1 with (fail)
  obtain ⟨W, hW⟩ : ∃ W, W = w.alloc (.cells (vxC x (.slice A n cp)).toArray 37) := ⟨_, rfl⟩
  change Code.wp _ _ _ _ (w.alloc (.cells (vxC x (.slice A n cp)).toArray 37))
  rw [← hW]
  have L0 := Lib.hid ((Below.refl w.heap.size w).alloc (Nat.le_refl _) (.cells (vxC x (.slice A n cp)).toArray 37))
  have X0 := Lib.hid (Bx.new w (vxC x (.slice A n cp)).toArray 37)
  rw [← hW] at L0 X0
  clear hW
  have x0 : W.cell? ⟨w.heap.size, 0, none⟩ = some (.int .i64 x.fr) := X0.out.2 0 _ rfl
  have x1 : W.cell? ⟨w.heap.size, 1, none⟩ = some (.int .i64 x.tt) := X0.out.2 1 _ rfl
  have x4 : W.cell? ⟨w.heap.size, 4, none⟩ = some (.int .i64 x.sq) := X0.out.2 4 _ rfl
  have x5 : W.cell? ⟨w.heap.size, 5, none⟩ = some (.int .i64 x.ak) := X0.out.2 5 _ rfl
  go_wp2
  clear x0 x1 x4 x5
  obtain ⟨W1, hW1⟩ : ∃ W1, W1 = W.alloc (.cells #[.int .i64 x.fr, .int .i64 x.tt, .int .i64 x.sq, .int .i64 x.ak] 3) := ⟨_, rfl⟩
  rw [← hW1]
  obtain ⟨g, hg⟩ : ∃ g, g = W.heap.size := ⟨_, rfl⟩
  rw [← hg]
  have L1 : Hid (Below w.heap.size w W1) := Lib.hid (by rw [hW1]; exact L0.out.alloc L0.out.size _)
  have X1 : Hid (Bx W1 w.heap.size (vxC x (.slice A n cp))) := Lib.hid (by rw [hW1]; exact X0.out.alloc _)
  have Y1 : Hid (∀ k, k < 4 → W1.cell? ⟨g, k, none⟩ = some (.int .i64 ((quad x).getD k 0))) := Lib.hid (fun k hk => by
    have h1 := Bx.new W #[.int .i64 x.fr, .int .i64 x.tt, .int .i64 x.sq, .int .i64 x.ak] 3
    rw [hW1, hg]
    refine h1.2 k _ ?_
    match k, hk with
    | 0, _ => rfl
    | 1, _ => rfl
    | 2, _ => rfl
    | 3, _ => rfl)
  clear hW1 hg L0 X0
  go_loop [17] (fun i => ∃ k : Nat, k ≤ 4 ∧ i = .int .i64 (k : Int) ∧ Hid (∀ j, j < k → inB ((quad x).getD j 0) 0 4294967295 = true)) (fun i => 4 - (intOf i).toNat)
  case atStart => exact ⟨0, Nat.zero_le _, rfl, Lib.hid (fun j hj => absurd hj (Nat.not_lt_zero _))⟩
  case round =>
    obtain ⟨k, hk, rfl, HK⟩ := hrel
    by_cases hlt : k < 4
    · have y1 := Y1.out k hlt
      obtain ⟨z, hz⟩ : ∃ z, z = (quad x).getD k 0 := ⟨_, rfl⟩
      rw [← hz] at y1
      have HZ := Lib.hid hz
      clear hz
      go_wp2_with fail
      refine (within_i z 0 4294967295 _).mono ?_
      obtain ⟨b, hb⟩ : ∃ b, b = (decide (0 ≤ z) && decide (z ≤ 4294967295)) := ⟨_, rfl⟩
      rw [← hb]
      rintro e w2 ⟨rfl, rfl⟩
      have HB : Hid (inB ((quad x).getD k 0) 0 4294967295 = b) := Lib.hid (by rw [← HZ.out, hb]; rfl)
      clear hb y1
      cases b
      · have HN : Hid (r = false) := Lib.hid (by rw [HR.out]; exact segOk_quad hlt HB.out)
        go_wp2
        go_ret
        exact ⟨ret_bool HN.out.symm, L1.out⟩
      · have HK2 : Hid (∀ j, j < k + 1 → inB ((quad x).getD j 0) 0 4294967295 = true) := Lib.hid (fun j hj => by
          by_cases e : j = k
          · subst e; exact HB.out
          · exact HK.out j (by omega))
        go_wp2
        go_roundw
        case rel => exact ⟨k + 1, by omega, by go_num, HK2⟩
        case measure => simp [intOf]; omega
    · obtain rfl : k = 4 := by omega
      have x2 : W1.cell? ⟨w.heap.size, 2, none⟩ = some (.int .i64 x.po) := X1.out.2 2 _ rfl
      have x3 : W1.cell? ⟨w.heap.size, 3, none⟩ = some (.int .i64 x.pe) := X1.out.2 3 _ rfl
      have x6 : W1.cell? ⟨w.heap.size, 6, none⟩ = some (.int .i64 x.fg) := X1.out.2 6 _ rfl
      have x7 : W1.cell? ⟨w.heap.size, 7, none⟩ = some (.slice A n cp) := X1.out.2 7 _ rfl
      have x8 : W1.cell? ⟨w.heap.size, 8, none⟩ = some (.string x.da) := X1.out.2 8 _ rfl
      go_wp2_with fail
      refine (within_i x.po 0 65535 _).mono ?_
      obtain ⟨b, hb⟩ : ∃ b, b = (decide (0 ≤ x.po) && decide (x.po ≤ 65535)) := ⟨_, rfl⟩
      rw [← hb]
      have HB : Hid (inB x.po 0 65535 = b) := Lib.hid (by rw [hb]; rfl)
      clear hb
      rintro e w2 ⟨rfl, rfl⟩
      cases b
      case false =>
        have HN : Hid (r = false) := Lib.hid (by rw [HR.out]; exact segOk_po HB.out)
        go_wp2
        go_ret
        exact ⟨ret_bool HN.out.symm, L1.out⟩
      go_wp2_with fail
      refine (within_i x.pe 0 65535 _).mono ?_
      obtain ⟨b, hb⟩ : ∃ b, b = (decide (0 ≤ x.pe) && decide (x.pe ≤ 65535)) := ⟨_, rfl⟩
      rw [← hb]
      have HB2 : Hid (inB x.pe 0 65535 = b) := Lib.hid (by rw [hb]; rfl)
      clear hb
      rintro e w2 ⟨rfl, rfl⟩
      cases b
      case false =>
        have HN : Hid (r = false) := Lib.hid (by rw [HR.out]; exact segOk_pe HB2.out)
        go_wp2
        go_ret
        exact ⟨ret_bool HN.out.symm, L1.out⟩
      go_wp2_with fail
      refine (within_i x.fg 0 15 _).mono ?_
      obtain ⟨b, hb⟩ : ∃ b, b = (decide (0 ≤ x.fg) && decide (x.fg ≤ 15)) := ⟨_, rfl⟩
      rw [← hb]
      have HB3 : Hid (inB x.fg 0 15 = b) := Lib.hid (by rw [hb]; rfl)
      clear hb
      rintro e w2 ⟨rfl, rfl⟩
      cases b
      case false =>
        have HN : Hid (r = false) := Lib.hid (by rw [HR.out]; exact segOk_fg HB3.out)
        go_wp2
        go_ret
        exact ⟨ret_bool HN.out.symm, L1.out⟩
      by_cases hn4 : n ≤ 4
      case neg =>
        have HN : Hid (r = false) := Lib.hid (by rw [HR.out]; exact segOk_n (by omega))
        have q1 : (4 : Int) < (n : Int) := by omega
        clear hlo hda
        go_wp2
        go_ret
        exact ⟨ret_bool HN.out.symm, L1.out⟩
      have q1 : ¬ (4 : Int) < (n : Int) := by omega
      by_cases hd4 : x.da.size ≤ 120
      case neg =>
        have HN : Hid (r = false) := Lib.hid (by rw [HR.out]; exact segOk_d hd4)
        have q2 : (120 : Int) < (x.da.size : Int) := by omega
        clear hlo hda
        go_wp2
        go_ret
        exact ⟨ret_bool HN.out.symm, L1.out⟩
      have q2 : ¬ (120 : Int) < (x.da.size : Int) := by omega
      have HN4 := Lib.hid hn4
      have HD4 := Lib.hid hd4
      clear hd4 hlo hda
      go_wp2
      clear x2 x3 x6 x7 x8
      go_loopw [56] (fun i wr => ∃ k : Nat, k ≤ n ∧ i = .int .i64 (k : Int) ∧ Hid (∀ j o, j < k → x.ops[j]? = some o → optOk o = true) ∧ Hid (Below w.heap.size w wr)) (fun i _ => n - (intOf i).toNat)
      case atStart => exact ⟨0, Nat.zero_le _, rfl, Lib.hid (fun j o hj => absurd hj (Nat.not_lt_zero _)), L1⟩
      case round =>
        obtain ⟨k, hk, rfl, HK2, HN⟩ := hrel
        by_cases hlt : k < n
        · obtain ⟨b1, o1, c1, e0⟩ := H.out.full (by omega)
          simp only [Value.slice.injEq] at e0
          obtain ⟨rfl, _, rfl⟩ := e0
          obtain ⟨o, iv, ho, hiv, hB, hR⟩ := (H.out.below HN.out).at_ hlt
          have XB := Lib.hid hB
          have XR := Lib.hid hR
          have XO := Lib.hid ho
          obtain ⟨A1, cp1, rfl⟩ := RdO.shape1 hR
          have XW := Lib.hid (HW.out o (od_in ho))
          have XI := Lib.hid (HI.out o (od_in ho))
          obtain ⟨b, hb⟩ : ∃ b, b = optOk o := ⟨_, rfl⟩
          have XK := Lib.hid hb
          clear hB hR ho hiv hb
          go_upto_region 12 with (first | (refine wpl_optA rfl (by rfl) (by rfl) XB.out ?_) | (refine wpl_store_opt rfl (by rfl) (by rfl) (by rfl) ?_))
          obtain ⟨W2, hW2⟩ : ∃ W, W = wr.alloc (.cells (voC o (.slice A1 o.ids.length cp1)).toArray 27) := ⟨_, rfl⟩
          rw [← hW2]
          have BX := Lib.hid (Bx.new wr (voC o (.slice A1 o.ids.length cp1)).toArray 27)
          have B2 := Lib.hid ((Below.refl wr.heap.size wr).alloc (Nat.le_refl _) (.cells (voC o (.slice A1 o.ids.length cp1)).toArray 27))
          rw [← hW2] at BX B2
          clear hW2
          have XR2 := Lib.hid (XR.out.below B2.out)
          have HN2 := Lib.hid (HN.out.trans (B2.out.mono HN.out.size))
          go_wp2_with (refine wpl_opt rfl (by rfl) (by rfl) BX.out ?_)
          refine (optOk_i o A1 _ cp1 _ XR2.out XI.out XW.out).mono ?_
          rw [← XK.out]
          rintro e w3 ⟨rfl, hb3⟩
          have HN3 := Lib.hid (HN2.out.trans (hb3.mono HN2.out.size))
          clear hb3 BX B2 XR2 HN2
          cases b
          · have HNo : Hid (r = false) := Lib.hid (by rw [HR.out]; exact segOk_o (od_in XO.out) XK.out.symm)
            go_wp2
            go_ret
            exact ⟨ret_bool HNo.out.symm, HN3.out⟩
          · have HK3 : Hid (∀ j q, j < k + 1 → x.ops[j]? = some q → optOk q = true) := Lib.hid (fun j q hj hq => by
              by_cases e : j = k
              · subst e
                rw [XO.out] at hq
                obtain rfl := Option.some.inj hq
                exact XK.out.symm
              · exact HK2.out j q (by omega) hq)
            go_wp2
            go_roundw
            case rel => exact ⟨k + 1, by omega, by go_num, HK3, HN3⟩
            case measure => simp [intOf]; omega
        · obtain rfl : k = n := by omega
          have HY : Hid (r = true) := Lib.hid (by
            rw [HR.out]
            refine segOk_yes HK.out HB.out HB2.out HB3.out (by have := HL.out; have := HN4.out; omega) HD4.out (fun o ho => ?_)
            obtain ⟨j, hj, rfl⟩ := List.getElem_of_mem ho
            exact HK2.out j _ (by have := HL.out; omega) (List.getElem?_eq_getElem hj))
          go_wp2
          go_ret
          exact ⟨ret_bool HY.out.symm, HN.out⟩
theorem nt4 (n : Int) : numTextB n 4 = inB n 0 4294967295 := by
  unfold numTextB inB
  rw [Bool.eq_iff_iff]
  simp
  omega
theorem nt2 (n : Int) : numTextB n 2 = inB n 0 65535 := by
  unfold numTextB inB
  rw [Bool.eq_iff_iff]
  simp
  omega
theorem nt_none {n wd : Int} (h : numTextB n wd = false) : ((str (numTextL n wd)).toList.isEmpty = true) ∧ ((str (numTextL n wd)).toList == []) = true := by
  rw [isE_nt, h, numTextL_no h]
  exact ⟨rfl, by rw [ByteArray.toList_eq]; rfl⟩
theorem nt_some {n wd : Int} (h : numTextB n wd = true) : ((str (numTextL n wd)).toList.isEmpty = false) ∧ ((str (numTextL n wd)).toList == []) = false := by
  have e := isE_nt (n := n) (wd := wd)
  rw [h] at e
  refine ⟨e, ?_⟩
  cases hl : (str (numTextL n wd)).toList with
  | nil => rw [hl] at e; cases e
  | cons a b => rfl
set_option maxRecDepth 100000 in
set_option maxHeartbeats 3200000 in
theorem segOk_s (x : SD) (A : Option Addr) (n cp : Nat) (ivs : List Value) (w : World) (h : RdO w (.slice A n cp) n x.ops ivs) (hwf : x.wf) :
    Calls Try.prog 41 #[vx x (.slice A n cp)] w fun e w' => e = .returned (.bool (segOk x)) ∧ Below w.heap.size w w' := by
  obtain ⟨r, hr⟩ : ∃ r, r = segOk x := ⟨_, rfl⟩
  rw [← hr]
  have HR := Lib.hid hr
  have H := Lib.hid h
  have HW := Lib.hid hwf
  have hlo := h.lo
  have HL := Lib.hid hlo
  have hda := hwf.2.1
  obtain ⟨_, _, e0, hm⟩ := h.shape
  unfold maxLen at hda hm
  clear hr h hwf e0
  go_enter Try.func41, Try.ntmps41
  go_upto_region 1 with (fail)
  obtain ⟨W, hW⟩ : ∃ W, W = w.alloc (.cells (vxC x (.slice A n cp)).toArray 37) := ⟨_, rfl⟩
  change Code.wp _ _ _ _ (w.alloc (.cells (vxC x (.slice A n cp)).toArray 37))
  rw [← hW]
  have L0 := Lib.hid ((Below.refl w.heap.size w).alloc (Nat.le_refl _) (.cells (vxC x (.slice A n cp)).toArray 37))
  have X0 := Lib.hid (Bx.new w (vxC x (.slice A n cp)).toArray 37)
  rw [← hW] at L0 X0
  clear hW
  have y0 : W.cell? ⟨w.heap.size, 0, none⟩ = some (.int .i64 x.fr) := X0.out.2 0 _ rfl
  go_wp2_with fail
  refine (numText_s x.fr 4 _ HW.out.1.1.2).mono ?_
  obtain ⟨T0, hT⟩ : ∃ T, T = str (numTextL x.fr 4) := ⟨_, rfl⟩
  rw [← hT]
  rintro e W' ⟨rfl, hb⟩
  have L0 := Lib.hid (L0.out.trans (hb.mono L0.out.size))
  have X0 := Lib.hid (X0.out.below hb)
  obtain ⟨W, rfl⟩ : ∃ W, W = W' := ⟨_, rfl⟩
  clear hb y0
  cases hb : numTextB x.fr 4
  case false =>
    have HN : Hid (r = false) := Lib.hid (by rw [HR.out]; exact segOk_quad (k := 0) (by omega) (by rw [← hb]; exact (nt4 _).symm))
    obtain ⟨d1, d2⟩ := nt_none hb
    rw [← hT] at d1 d2
    clear hT hb
    go_wp2
    go_ret
    exact ⟨ret_bool HN.out.symm, L0.out⟩
  have HB0 : Hid (inB x.fr 0 4294967295 = true) := Lib.hid (by rw [← hb]; exact (nt4 _).symm)
  obtain ⟨d0a, d0b⟩ := nt_some hb
  rw [← hT] at d0a d0b
  clear hT hb
  have y1 : W.cell? ⟨w.heap.size, 1, none⟩ = some (.int .i64 x.tt) := X0.out.2 1 _ rfl
  go_wp2_with fail
  refine (numText_s x.tt 4 _ HW.out.1.2.1.2).mono ?_
  obtain ⟨T1, hT⟩ : ∃ T, T = str (numTextL x.tt 4) := ⟨_, rfl⟩
  rw [← hT]
  rintro e W' ⟨rfl, hb⟩
  have L0 := Lib.hid (L0.out.trans (hb.mono L0.out.size))
  have X0 := Lib.hid (X0.out.below hb)
  obtain ⟨W, rfl⟩ : ∃ W, W = W' := ⟨_, rfl⟩
  clear hb y1
  cases hb : numTextB x.tt 4
  case false =>
    have HN : Hid (r = false) := Lib.hid (by rw [HR.out]; exact segOk_quad (k := 1) (by omega) (by rw [← hb]; exact (nt4 _).symm))
    obtain ⟨d1, d2⟩ := nt_none hb
    rw [← hT] at d1 d2
    clear hT hb
    go_wp2
    go_ret
    exact ⟨ret_bool HN.out.symm, L0.out⟩
  have HB1 : Hid (inB x.tt 0 4294967295 = true) := Lib.hid (by rw [← hb]; exact (nt4 _).symm)
  obtain ⟨d1a, d1b⟩ := nt_some hb
  rw [← hT] at d1a d1b
  clear hT hb
  have y2 : W.cell? ⟨w.heap.size, 2, none⟩ = some (.int .i64 x.po) := X0.out.2 2 _ rfl
  go_wp2_with fail
  refine (numText_s x.po 2 _ HW.out.1.2.2.1.2).mono ?_
  obtain ⟨T2, hT⟩ : ∃ T, T = str (numTextL x.po 2) := ⟨_, rfl⟩
  rw [← hT]
  rintro e W' ⟨rfl, hb⟩
  have L0 := Lib.hid (L0.out.trans (hb.mono L0.out.size))
  have X0 := Lib.hid (X0.out.below hb)
  obtain ⟨W, rfl⟩ : ∃ W, W = W' := ⟨_, rfl⟩
  clear hb y2
  cases hb : numTextB x.po 2
  case false =>
    have HN : Hid (r = false) := Lib.hid (by rw [HR.out]; exact segOk_po (by rw [← hb]; exact (nt2 _).symm))
    obtain ⟨d1, d2⟩ := nt_none hb
    rw [← hT] at d1 d2
    clear hT hb
    go_wp2
    go_ret
    exact ⟨ret_bool HN.out.symm, L0.out⟩
  have HB2 : Hid (inB x.po 0 65535 = true) := Lib.hid (by rw [← hb]; exact (nt2 _).symm)
  obtain ⟨d2a, d2b⟩ := nt_some hb
  rw [← hT] at d2a d2b
  clear hT hb
  have y3 : W.cell? ⟨w.heap.size, 3, none⟩ = some (.int .i64 x.pe) := X0.out.2 3 _ rfl
  go_wp2_with fail
  refine (numText_s x.pe 2 _ HW.out.1.2.2.2.1.2).mono ?_
  obtain ⟨T3, hT⟩ : ∃ T, T = str (numTextL x.pe 2) := ⟨_, rfl⟩
  rw [← hT]
  rintro e W' ⟨rfl, hb⟩
  have L0 := Lib.hid (L0.out.trans (hb.mono L0.out.size))
  have X0 := Lib.hid (X0.out.below hb)
  obtain ⟨W, rfl⟩ : ∃ W, W = W' := ⟨_, rfl⟩
  clear hb y3
  cases hb : numTextB x.pe 2
  case false =>
    have HN : Hid (r = false) := Lib.hid (by rw [HR.out]; exact segOk_pe (by rw [← hb]; exact (nt2 _).symm))
    obtain ⟨d1, d2⟩ := nt_none hb
    rw [← hT] at d1 d2
    clear hT hb
    go_wp2
    go_ret
    exact ⟨ret_bool HN.out.symm, L0.out⟩
  have HB3 : Hid (inB x.pe 0 65535 = true) := Lib.hid (by rw [← hb]; exact (nt2 _).symm)
  obtain ⟨d3a, d3b⟩ := nt_some hb
  rw [← hT] at d3a d3b
  clear hT hb
  have y4 : W.cell? ⟨w.heap.size, 4, none⟩ = some (.int .i64 x.sq) := X0.out.2 4 _ rfl
  go_wp2_with fail
  refine (numText_s x.sq 4 _ HW.out.1.2.2.2.2.1.2).mono ?_
  obtain ⟨T4, hT⟩ : ∃ T, T = str (numTextL x.sq 4) := ⟨_, rfl⟩
  rw [← hT]
  rintro e W' ⟨rfl, hb⟩
  have L0 := Lib.hid (L0.out.trans (hb.mono L0.out.size))
  have X0 := Lib.hid (X0.out.below hb)
  obtain ⟨W, rfl⟩ : ∃ W, W = W' := ⟨_, rfl⟩
  clear hb y4
  cases hb : numTextB x.sq 4
  case false =>
    have HN : Hid (r = false) := Lib.hid (by rw [HR.out]; exact segOk_quad (k := 2) (by omega) (by rw [← hb]; exact (nt4 _).symm))
    obtain ⟨d1, d2⟩ := nt_none hb
    rw [← hT] at d1 d2
    clear hT hb
    go_wp2
    go_ret
    exact ⟨ret_bool HN.out.symm, L0.out⟩
  have HB4 : Hid (inB x.sq 0 4294967295 = true) := Lib.hid (by rw [← hb]; exact (nt4 _).symm)
  obtain ⟨d4a, d4b⟩ := nt_some hb
  rw [← hT] at d4a d4b
  clear hT hb
  have y5 : W.cell? ⟨w.heap.size, 5, none⟩ = some (.int .i64 x.ak) := X0.out.2 5 _ rfl
  go_wp2_with fail
  refine (numText_s x.ak 4 _ HW.out.1.2.2.2.2.2.1.2).mono ?_
  obtain ⟨T5, hT⟩ : ∃ T, T = str (numTextL x.ak 4) := ⟨_, rfl⟩
  rw [← hT]
  rintro e W' ⟨rfl, hb⟩
  have L0 := Lib.hid (L0.out.trans (hb.mono L0.out.size))
  have X0 := Lib.hid (X0.out.below hb)
  obtain ⟨W, rfl⟩ : ∃ W, W = W' := ⟨_, rfl⟩
  clear hb y5
  cases hb : numTextB x.ak 4
  case false =>
    have HN : Hid (r = false) := Lib.hid (by rw [HR.out]; exact segOk_quad (k := 3) (by omega) (by rw [← hb]; exact (nt4 _).symm))
    obtain ⟨d1, d2⟩ := nt_none hb
    rw [← hT] at d1 d2
    clear hT hb
    go_wp2
    go_ret
    exact ⟨ret_bool HN.out.symm, L0.out⟩
  have HB5 : Hid (inB x.ak 0 4294967295 = true) := Lib.hid (by rw [← hb]; exact (nt4 _).symm)
  obtain ⟨d5a, d5b⟩ := nt_some hb
  rw [← hT] at d5a d5b
  clear hT hb
  have x6 : W.cell? ⟨w.heap.size, 6, none⟩ = some (.int .i64 x.fg) := X0.out.2 6 _ rfl
  have x7 : W.cell? ⟨w.heap.size, 7, none⟩ = some (.slice A n cp) := X0.out.2 7 _ rfl
  have x8 : W.cell? ⟨w.heap.size, 8, none⟩ = some (.string x.da) := X0.out.2 8 _ rfl
  go_wp2_with fail
  refine (within_s x.fg 0 15 _).mono ?_
  obtain ⟨b, hb⟩ : ∃ b, b = (decide (0 ≤ x.fg) && decide (x.fg ≤ 15)) := ⟨_, rfl⟩
  rw [← hb]
  have HB6 : Hid (inB x.fg 0 15 = b) := Lib.hid (by rw [hb]; rfl)
  clear hb
  rintro e w2 ⟨rfl, rfl⟩
  cases b
  case false =>
    have HN : Hid (r = false) := Lib.hid (by rw [HR.out]; exact segOk_fg HB6.out)
    go_wp2
    go_ret
    exact ⟨ret_bool HN.out.symm, L0.out⟩
  by_cases hn4 : n ≤ 4
  case neg =>
    have HN : Hid (r = false) := Lib.hid (by rw [HR.out]; exact segOk_n (by omega))
    have q1 : (4 : Int) < (n : Int) := by omega
    clear hlo hda
    go_wp2
    go_ret
    exact ⟨ret_bool HN.out.symm, L0.out⟩
  have q1 : ¬ (4 : Int) < (n : Int) := by omega
  by_cases hd4 : x.da.size ≤ 120
  case neg =>
    have HN : Hid (r = false) := Lib.hid (by rw [HR.out]; exact segOk_d hd4)
    have q2 : (120 : Int) < (x.da.size : Int) := by omega
    clear hlo hda
    go_wp2
    go_ret
    exact ⟨ret_bool HN.out.symm, L0.out⟩
  have q2 : ¬ (120 : Int) < (x.da.size : Int) := by omega
  have HN4 := Lib.hid hn4
  have HD4 := Lib.hid hd4
  clear hd4 hlo hda
  go_wp2
  clear x6 x7 x8
  go_loopw [3] (fun i wr => ∃ k : Nat, k ≤ n ∧ i = .int .i64 (k : Int) ∧ Hid (∀ j o, j < k → x.ops[j]? = some o → optOk o = true) ∧ Hid (Bx wr w.heap.size (vxC x (.slice A n cp))) ∧ Hid (Below w.heap.size w wr)) (fun i _ => n - (intOf i).toNat)
  case atStart => exact ⟨0, Nat.zero_le _, rfl, Lib.hid (fun j o hj => absurd hj (Nat.not_lt_zero _)), X0, L0⟩
  case round =>
    clear X0 L0
    obtain ⟨k, hk, rfl, HK2, XW, HN⟩ := hrel
    have x7 : wr.cell? ⟨w.heap.size, 7, none⟩ = some (.slice A n cp) := XW.out.2 7 _ rfl
    by_cases hlt : k < n
    · obtain ⟨b1, o1, c1, e0⟩ := H.out.full (by omega)
      simp only [Value.slice.injEq] at e0
      obtain ⟨rfl, _, rfl⟩ := e0
      obtain ⟨o, iv, ho, hiv, hB, hR⟩ := (H.out.below HN.out).at_ hlt
      have XB := Lib.hid hB
      have XR := Lib.hid hR
      have XO := Lib.hid ho
      obtain ⟨A1, cp1, rfl⟩ := RdO.shape1 hR
      have XF := Lib.hid (HW.out.2.2 o (od_in ho))
      obtain ⟨b, hb⟩ : ∃ b, b = optOk o := ⟨_, rfl⟩
      have XK := Lib.hid hb
      clear hB hR ho hiv hb
      go_wp2_with (refine wpl_optA rfl (by rfl) (by rfl) XB.out ?_)
      refine (optOk_s' o A1 _ cp1 _ XR.out XF.out).mono ?_
      rw [← XK.out]
      rintro e w3 ⟨rfl, hb3⟩
      have HN3 := Lib.hid (HN.out.trans (hb3.mono HN.out.size))
      have XW3 := Lib.hid (XW.out.below hb3)
      clear hb3 x7
      cases b
      · have HNo : Hid (r = false) := Lib.hid (by rw [HR.out]; exact segOk_o (od_in XO.out) XK.out.symm)
        go_wp2
        go_ret
        exact ⟨ret_bool HNo.out.symm, HN3.out⟩
      · have HK3 : Hid (∀ j q, j < k + 1 → x.ops[j]? = some q → optOk q = true) := Lib.hid (fun j q hj hq => by
          by_cases e : j = k
          · subst e
            rw [XO.out] at hq
            obtain rfl := Option.some.inj hq
            exact XK.out.symm
          · exact HK2.out j q (by omega) hq)
        go_wp2
        go_roundw
        case rel => exact ⟨k + 1, by omega, by go_num, HK3, XW3, HN3⟩
        case measure => simp [intOf]; omega
    · obtain rfl : k = n := by omega
      have HY : Hid (r = true) := Lib.hid (by
        rw [HR.out]
        refine segOk_yes (fun j hj => ?_) HB2.out HB3.out HB6.out (by have := HL.out; have := HN4.out; omega) HD4.out (fun o ho => ?_)
        · match j, hj with
          | 0, _ => exact HB0.out
          | 1, _ => exact HB1.out
          | 2, _ => exact HB4.out
          | 3, _ => exact HB5.out
        · obtain ⟨j, hj, rfl⟩ := List.getElem_of_mem ho
          exact HK2.out j _ (by have := HL.out; omega) (List.getElem?_eq_getElem hj))
      go_wp2
      go_ret
      exact ⟨ret_bool HY.out.symm, HN.out⟩
end Go.Proofs.Ytkgbkgonlopciaa

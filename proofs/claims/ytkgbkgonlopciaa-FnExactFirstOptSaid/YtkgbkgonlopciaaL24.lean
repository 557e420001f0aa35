/- The walk of the law of FirstOpt. -/
import Derived.Test.YtkgbkgonlopciaaA31
import Derived.Test.YtkgbkgonlopciaaM11
import Derived.Test.YtkgbkgonlopciaaM8
import Derived.Deep.Cut
import Derived.Deep.RegionHeld
namespace Go.Proofs.Ytkgbkgonlopciaa
open Go.RowKit
set_option linter.unusedVariables false
set_option linter.unusedSimpArgs false
theorem wpl_optG {ops : Array Oper} {rest : List Oper} {op : Oper} {a : Act} {w : World} {Q : Exit → Act → World → Prop} {x : Operand} {b : Nat} {o : OD} {iv : Value} (hw : Region.wanted op (yielded ops a.tmps) = true) (ho : op.op = .load 27 x)
    (hx : a.eval x = .pointer (some ⟨b, 0, none⟩)) (h : Bx w b (voC o iv)) (hK : wpList Try.prog ops Q rest (a.put op.dst (vo o iv)) w) : wpList Try.prog ops Q (op :: rest) a w := by
  unfold wpList
  rw [if_pos hw]
  left
  exact wp_load_mid 27 x ho b 0 hx (voC o iv) _ (fun j v hj => by rw [Nat.zero_add]; exact h.2 j v hj) Try.underlying27 rfl (by kernel_rfl) hK
theorem firstO_ids {os : List OD} {k : Int} (h : ∀ o ∈ os, o.ids.length ≤ 4294967296) : ((firstO os k).getD (OD.new 0 [])).ids.length ≤ 4294967296 := by
  cases e : firstO os k with
  | none => exact Nat.zero_le _
  | some o => exact h o (List.mem_of_find?_eq_some e)
set_option maxRecDepth 100000 in
set_option maxHeartbeats 6400000 in
theorem law_FirstOpt (x : SD) (xv : Value) (n : Nat) (ivs : List Value) (kd : Int) (w : World) (h1 : RdO w xv n x.ops ivs) (z1 : x.wf) (hkd : (Lit.int .i64 kd).wf = true) :
    Calls Try.prog 6 #[vx x xv, .int .i64 kd] w fun e w' => e = .returned (.bool true) ∧ Below w.heap.size w w' := by
  have HLO := Lib.hid h1.lo
  have Z1 := Lib.hid z1
  have H1 := Lib.hid h1
  clear h1 z1 hkd
  obtain ⟨A0, p0, rfl, _⟩ := H1.out.shape
  go_enter Try.func6, Try.ntmps6
  go_upto_region 2 with (fail)
  obtain ⟨W, hW⟩ : ∃ W, W = w.alloc (.cells (vxC x (.slice A0 n p0)).toArray 32) := ⟨_, rfl⟩
  change Code.wp _ _ _ _ (w.alloc (.cells (vxC x (.slice A0 n p0)).toArray 32))
  rw [← hW]
  have L0 := Lib.hid ((Below.refl w.heap.size w).alloc (Nat.le_refl _) (.cells (vxC x (.slice A0 n p0)).toArray 32))
  have X0 := Lib.hid (Bx.new w (vxC x (.slice A0 n p0)).toArray 32)
  rw [← hW] at L0 X0
  clear hW
  by_cases c1 : szX x ≤ 1048576
  case neg =>
    go_wp2_with (refine wpl_segL rfl (by rfl) (by rfl) X0.out ?_)
    refine (szSeg_l_big x _ n ivs 1048576 _ (H1.out.below L0.out) Z1.out (by omega) (by omega)).mono ?_
    rintro e w1 ⟨rfl, hb⟩
    have HB := Lib.hid hb
    clear hb
    go_wp2
    go_ret
    exact ⟨rfl, L0.out.trans (HB.out.mono L0.out.size)⟩
  obtain ⟨qz, hqz⟩ : ∃ q, q = 1048576 - szX x := ⟨_, rfl⟩
  have HQZ := Lib.hid hqz
  have hqb : qz ≤ 1048576 := by omega
  clear hqz
  have hn1 : n ≤ 1048576 := by have := HLO.out; unfold szX at c1; omega
  have HNI : Hid (∀ o ∈ x.ops, o.ids.length ≤ 4294967296) := Lib.hid (fun o ho => by have := ids_sum ho; unfold szX at c1; omega)
  have HKB : Hid (1 + 13 * n + sumO x.ops ≤ 4294967296) := Lib.hid (by have := HLO.out; unfold szX at c1; omega)
  have C1 := Lib.hid c1
  clear c1
  obtain ⟨q, hq⟩ : ∃ q, q = (firstO x.ops kd).getD (OD.new 0 []) := ⟨_, rfl⟩
  obtain ⟨bq, hbq⟩ : ∃ b, b = (firstO x.ops kd).isSome := ⟨_, rfl⟩
  obtain ⟨m, hm⟩ : ∃ m, m = q.ids.length := ⟨_, rfl⟩
  have hmb : m ≤ 4294967296 := by rw [hm, hq]; exact firstO_ids HNI.out
  have FI : Hid (∀ (A : Option Addr) (cp : Nat) (ks : List Value) (V : World), RdO V (.slice A n cp) n x.ops ks → Calls Try.prog 28 #[vx x (.slice A n cp), .int .i64 kd] V fun e w' => ∃ iv, e = .returned (.tuple #[vo q iv, .bool bq]) ∧ Obs w' V.heap.size 1 iv m (q.ids.map vn) ∧ Below V.heap.size V w') := Lib.hid (fun A cp ks V hV => by
    rw [hm, hq, hbq]; exact firstOpt_i x A n cp ks kd V hV HNI.out)
  have FSX : Hid (∀ (A : Option Addr) (cp : Nat) (ks : List Value) (V : World), RdO V (.slice A n cp) n x.ops ks → Calls Try.prog 29 #[vx x (.slice A n cp), .int .i64 kd] V fun e w' => ∃ iv, e = .returned (.tuple #[vo q iv, .bool bq]) ∧ Obs w' V.heap.size 1 iv m (q.ids.map vn) ∧ Below V.heap.size V w') := Lib.hid (fun A cp ks V hV => by
    rw [hm, hq, hbq]; exact firstOpt_s x A n cp ks kd V hV HNI.out)
  have TS : Hid (∀ V : World, Below w.heap.size w V → Calls Try.prog 23 #[vx x (.slice A0 n p0)] V fun e w' => ∃ A cp ks, e = .returned (vx x (.slice A n cp)) ∧ ObO w' V.heap.size (.slice A n cp) n x.ops ks ∧ Apt (.slice A n cp) ks ∧ Below V.heap.size V w') := Lib.hid (fun V hV =>
    (toSeg_l x _ n ivs V (H1.out.below hV) hn1 HNI.out).mono (fun e w' ⟨v, ks, he, ho, ha, hb⟩ => by
      rw [HLO.out] at ho
      obtain ⟨A, cp, rfl, _⟩ := ho.rd.shape
      exact ⟨A, cp, ks, he, ho, ha, hb⟩))
  have HM := Lib.hid hm
  clear hq hbq hm
  go_wp2_with (refine wpl_segL rfl (by rfl) (by rfl) X0.out ?_)
  refine (szSeg_l x _ n ivs 1048576 _ (H1.out.below L0.out) (by omega) C1.out).mono ?_
  rintro e w2 ⟨rfl, hb⟩
  rw [← HQZ.out]
  have L2 := Lib.hid (L0.out.trans (hb.mono L0.out.size))
  have X2 := Lib.hid (X0.out.below hb)
  clear hb X0 L0
  go_wp2_with (refine wpl_segL rfl (by rfl) (by rfl) X2.out ?_)
  refine (TS.out _ L2.out).mono ?_
  rintro e w3 ⟨A3, p3, ks3, rfl, ho, _, hb⟩
  have T3 := Lib.hid ho.rd
  have L3 := Lib.hid (L2.out.trans (hb.mono L2.out.size))
  have X3 := Lib.hid (X2.out.below hb)
  clear ho hb X2 L2
  go_wp2_with fail
  refine (FSX.out A3 p3 ks3 _ T3.out).mono ?_
  rintro e w4 ⟨iv1, rfl, ho, hb⟩
  obtain ⟨A4, p4, rfl⟩ := ho.shape
  have O4 := Lib.hid ho
  have L4 := Lib.hid (L3.out.trans (hb.mono L3.out.size))
  have X4 := Lib.hid (X3.out.below hb)
  clear ho hb X3 L3 T3
  go_upto_region 6 with ((refine wpl_store_opt rfl (by rfl) (by rfl) (by rfl) ?_))
  obtain ⟨W4, hW4⟩ : ∃ W, W = w4.alloc (.cells (voC q (.slice A4 m p4)).toArray 27) := ⟨_, rfl⟩
  rw [← hW4]
  obtain ⟨b6, hb6⟩ : ∃ b, b = w4.heap.size := ⟨_, rfl⟩
  have B6 := Lib.hid (Bx.new w4 (voC q (.slice A4 m p4)).toArray 27)
  have E4 := Lib.hid ((Below.refl w4.heap.size w4).alloc (Nat.le_refl _) (.cells (voC q (.slice A4 m p4)).toArray 27))
  rw [← hW4] at B6 E4
  rw [← hb6] at B6 ⊢
  have O5 := Lib.hid (O4.out.below E4.out)
  have L5 := Lib.hid (L4.out.trans (E4.out.mono L4.out.size))
  have X5 := Lib.hid (X4.out.below E4.out)
  have F6 : Hid (b6 < W4.heap.size) := Lib.hid B6.out.1
  have LW4 : Hid (w.heap.size ≤ W4.heap.size) := Lib.hid L5.out.size
  have LB0 : Hid (w.heap.size < W4.heap.size) := Lib.hid X5.out.1
  have F4 : Hid (∀ g, (Value.slice A4 m p4).ownBlock = some g → g < W4.heap.size) := Lib.hid (fun g hg => (O5.out.lt g hg).2)
  clear hW4 hb6 E4 O4 L4 X4
  go_wp2_with (refine wpl_segL rfl (by rfl) (by rfl) X5.out ?_)
  refine (TS.out _ L5.out).mono ?_
  rintro e w5 ⟨A5, p5, ks5, rfl, ho, ha, hb⟩
  have R5 := Lib.hid ho
  have AP := Lib.hid ha
  have G5 : Hid (W4.heap.size ≤ w5.heap.size) := Lib.hid hb.size
  have L6 := Lib.hid (L5.out.trans (hb.mono L5.out.size))
  have X6 := Lib.hid (X5.out.below hb)
  have O6 := Lib.hid (O5.out.below hb)
  have B6' := Lib.hid (B6.out.below hb)
  have V5 : Hid (∀ g, (Value.slice A5 n p5).ownBlock = some g → g < w5.heap.size) := Lib.hid (fun g hg => (ho.row.lt g hg).2)
  have VS5 : Hid (∀ a ∈ ks5, ∀ g, a.ownBlock = some g → g < w5.heap.size) := Lib.hid (fun a ha g hg => by
    obtain ⟨k, hk, rfl⟩ := List.getElem_of_mem ha
    have hk2 : k < x.ops.length := by have := ho.lo; have := ho.li; omega
    exact ((ho.ids k _ _ (List.getElem?_eq_getElem hk2) (List.getElem?_eq_getElem hk)).lt g hg).2)
  clear ho ha hb L5 X5 O5 B6
  go_upto_region 7 with ((refine wpl_store_seg rfl (by rfl) (by rfl) (by rfl) ?_))
  obtain ⟨W5, hW5⟩ : ∃ W, W = w5.alloc (.cells (vxC x (.slice A5 n p5)).toArray 37) := ⟨_, rfl⟩
  rw [← hW5]
  obtain ⟨b8, hb8⟩ : ∃ b, b = w5.heap.size := ⟨_, rfl⟩
  have B8 := Lib.hid (Bx.new w5 (vxC x (.slice A5 n p5)).toArray 37)
  have E5 := Lib.hid ((Below.refl w5.heap.size w5).alloc (Nat.le_refl _) (.cells (vxC x (.slice A5 n p5)).toArray 37))
  rw [← hW5] at B8 E5
  rw [← hb8] at B8 G5 V5 VS5 ⊢
  have R6 := Lib.hid (R5.out.below E5.out)
  have L7 := Lib.hid (L6.out.trans (E5.out.mono L6.out.size))
  have X7 := Lib.hid (X6.out.below E5.out)
  have O7 := Lib.hid (O6.out.below E5.out)
  have B7 := Lib.hid (B6'.out.below E5.out)
  have F8 : Hid (b8 < W5.heap.size) := Lib.hid B8.out.1
  clear hW5 hb8 E5 R5 L6 X6 O6 B6'
  go_wp2_with (refine wpl_segI rfl (by rfl) (by rfl) B8.out ?_)
  refine (FI.out A5 p5 ks5 _ R6.out.rd).mono ?_
  rintro e w6 ⟨iv2, rfl, ho, hb⟩
  obtain ⟨A6, p6, rfl⟩ := ho.shape
  have P6 := Lib.hid ho
  have R7 := Lib.hid (R6.out.below hb)
  have L8 := Lib.hid (L7.out.trans (hb.mono L7.out.size))
  have X8 := Lib.hid (X7.out.below hb)
  have O8 := Lib.hid (O7.out.below hb)
  have B9 := Lib.hid (B7.out.below hb)
  have B8' := Lib.hid (B8.out.below hb)
  have G6 : Hid (W5.heap.size ≤ w6.heap.size) := Lib.hid hb.size
  clear ho hb R6 L7 X7 O7 B7 B8
  go_upto_region 8 with ((refine wpl_store_opt rfl (by rfl) (by rfl) (by rfl) ?_))
  obtain ⟨W6, hW6⟩ : ∃ W, W = w6.alloc (.cells (voC q (.slice A6 m p6)).toArray 27) := ⟨_, rfl⟩
  rw [← hW6]
  obtain ⟨b9, hb9⟩ : ∃ b, b = w6.heap.size := ⟨_, rfl⟩
  have C9 := Lib.hid (Bx.new w6 (voC q (.slice A6 m p6)).toArray 27)
  have E6 := Lib.hid ((Below.refl w6.heap.size w6).alloc (Nat.le_refl _) (.cells (voC q (.slice A6 m p6)).toArray 27))
  rw [← hW6] at C9 E6
  have F9 : Hid (∀ g, (Value.slice A6 m p6).ownBlock = some g → g < b9) := Lib.hid (fun g h => by have := (P6.out.lt g h).2; omega)
  rw [← hb9] at C9 G6 ⊢
  have R8 := Lib.hid (R7.out.below E6.out)
  have L9 := Lib.hid (L8.out.trans (E6.out.mono L8.out.size))
  have X9 := Lib.hid (X8.out.below E6.out)
  have O9 := Lib.hid (O8.out.below E6.out)
  have P9 := Lib.hid (P6.out.below E6.out)
  have B10 := Lib.hid (B9.out.below E6.out)
  have D8 := Lib.hid (B8'.out.below E6.out)
  clear hW6 hb9 E6 R7 L8 X8 O8 P6 B9 B8'
  go_wp2_with (first | (refine wpl_opt rfl (by rfl) (by rfl) C9.out ?_) | (refine wpl_opt rfl (by rfl) (by rfl) B10.out ?_))
  refine (eqOpt_l q _ _ m _ (by rw [HM.out] at P9 ⊢; exact P9.out.rd) (by rw [HM.out] at O9 ⊢; exact O9.out.rd)).mono ?_
  rintro e w7 ⟨rfl, hb⟩
  have R10 := Lib.hid (R8.out.below hb)
  have L10 := Lib.hid (L9.out.trans (hb.mono L9.out.size))
  have X10 := Lib.hid (X9.out.below hb)
  have O10 := Lib.hid (O9.out.below hb)
  have P10 := Lib.hid (P9.out.below hb)
  have B11 := Lib.hid (B10.out.below hb)
  have D10 := Lib.hid (D8.out.below hb)
  have C10 := Lib.hid (C9.out.below hb)
  clear hb R8 L9 X9 O9 P9 B10 D8 C9
  go_upto_region 10 with (fail)
  have keep : ∀ w', Below w7.heap.size w7 w' → Bx w' b8 (vxC x (.slice A5 n p5)) ∧ Bx w' w.heap.size (vxC x (.slice A0 n p0)) ∧ Below w7.heap.size w7 w' := fun w' hb => ⟨D10.out.below hb, X10.out.below hb, hb⟩
  have HKP := Lib.hid keep
  have B0 := Lib.hid (Below.refl w7.heap.size w7).drew
  clear keep
  refine wp_region_held_drew (S := fun w' => Bx w' b8 (vxC x (.slice A5 n p5)) ∧ Bx w' w.heap.size (vxC x (.slice A0 n p0)) ∧ Below w7.heap.size w7 w') (by kernel_rfl) (HKP.out _ B0.out) (fun hHeld => ?_)
  refine wpAnyH_take (i := 0) (oi := ⟨some 45, _, _, _, _, _⟩) rfl (by kernel_rfl) (by kernel_rfl) (by kernel_rfl) (fun _ _ _ h => h) (yields_seg (by kernel_rfl) rfl (by rfl) (fun w h => h.1)) (by assumption) ?_
  try simp only [Act.put, List.setIfInBounds_toArray, List.set_cons_zero, List.set_cons_succ]
  refine wpAnyH_take (i := 1) (oi := ⟨some 46, _, _, _, _, _⟩) rfl (by kernel_rfl) (by kernel_rfl) (by kernel_rfl) (fun _ _ _ h => h) (yields_segL (by kernel_rfl) rfl (by rfl) (fun w h => h.2.1)) (by assumption) ?_
  try simp only [Act.put, List.setIfInBounds_toArray, List.set_cons_zero, List.set_cons_succ]
  refine wpAnyH_ready (rs := [2]) (by kernel_rfl) (by simp) ?_
  refine AllReadyH.cons (o := ⟨some 47, _, _, _, _, _⟩) rfl (fun K hK => ?_) AllReadyH.nil
  go_simp
  (go_at_call 23; refine (TS.out _ (L10.out.trans (B0.out.mono L10.out.size))).mono ?_; rintro e w8 ⟨A8, p8, ks8, rfl, ho, _, hb⟩)
  try go_wp2_with fail
  refine hK.out _ _ ?_ (fun hHeld => ?_)
  · exact HKP.out _ (B0.out.trans (hb.mono B0.out.size))
  clear hK K
  try simp only [Act.put, List.setIfInBounds_toArray, List.set_cons_zero, List.set_cons_succ]
  have B1 := Lib.hid (B0.out.trans (hb.mono B0.out.size))
  have T8 := Lib.hid ho.rd
  clear hb ho B0
  refine wpAnyH_ready (rs := [3]) (by kernel_rfl) (by simp) ?_
  refine AllReadyH.cons (o := ⟨some 48, _, _, _, _, _⟩) rfl (fun K hK => ?_) AllReadyH.nil
  go_simp
  (go_at_call 25; refine (eqSeg_l x _ _ n _ _ _ (R10.out.rd.below B1.out) T8.out).mono ?_; rintro e w9 ⟨rfl, hb⟩)
  try go_wp2_with fail
  refine hK.out _ _ ?_ (fun hHeld => ?_)
  · exact HKP.out _ (B1.out.trans (hb.mono B1.out.size))
  clear hK K
  try simp only [Act.put, List.setIfInBounds_toArray, List.set_cons_zero, List.set_cons_succ]
  have B2 := Lib.hid (B1.out.trans (hb.mono B1.out.size))
  clear hb B1 T8
  refine wpAnyH_take (i := 4) (oi := ⟨some 49, _, _, _, _, _⟩) (v := ?_) rfl (by kernel_rfl) (by kernel_rfl) (by kernel_rfl) (fun _ _ _ h => h) (Or.inl ⟨by kernel_rfl, ?_⟩) (by assumption) ?_
  rotate_left
  · (intro w hSw; (try dsimp only at hSw); go_simp; try (with_reducible rfl))
  try simp only [Act.put, List.setIfInBounds_toArray, List.set_cons_zero, List.set_cons_succ]
  refine wpAnyH_done (by kernel_rfl) ?_ _
  repeat clear hHeld
  have R11 := Lib.hid (R10.out.below B2.out)
  have L11 := Lib.hid (L10.out.trans (B2.out.mono L10.out.size))
  have X11 := Lib.hid (X10.out.below B2.out)
  have O11 := Lib.hid (O10.out.below B2.out)
  have P11 := Lib.hid (P10.out.below B2.out)
  have B12 := Lib.hid (B11.out.below B2.out)
  have D11 := Lib.hid (D10.out.below B2.out)
  have C11 := Lib.hid (C10.out.below B2.out)
  clear HKP B2 R10 L10 X10 O10 P10 B11 D10 C10
  have S9 : Hid (b8 ≤ w9.heap.size) := Lib.hid (Nat.le_of_lt D11.out.1)
  go_wp2_with (refine wpl_segI rfl (by rfl) (by rfl) D11.out ?_)
  refine (markSeg_l x _ n ks5 1 W4.heap.size b8 w9 R11.out AP.out (Nat.le_trans G5.out S9.out) S9.out V5.out VS5.out (Nat.le_refl 1) HKB.out).mono ?_
  rintro e w10 ⟨rfl, _, hw⟩
  have hG5 := G5.out
  have hLw : w.heap.size ≤ W4.heap.size := LW4.out
  have L12 := Lib.hid (L11.out.trans ((hw.below (Nat.le_trans G5.out S9.out)).mono hLw))
  have X12 := Lib.hid (X11.out.wth (.inl (by have := LB0.out; omega)) hw)
  have O12 := Lib.hid (O11.out.wth (fun g hg => .inl (F4.out g hg)) hw)
  have P12 := Lib.hid (P11.out.wth (fun g hg => .inr (by have := (P11.out.lt g hg).1; have := F8.out; omega)) hw)
  have B13 := Lib.hid (B12.out.wth (.inl F6.out) hw)
  have C12 := Lib.hid (C11.out.wth (.inr (by have := G6.out; have := F8.out; omega)) hw)
  clear hw L11 X11 O11 P11 B12 C11 D11 R11 hG5 hLw
  obtain ⟨kk, hkk⟩ : ∃ k : Int, k = ((omE 1 x.ops : Nat) : Int) := ⟨_, rfl⟩
  have hkk0 : ¬ (kk < 0) := by rw [hkk]; exact Int.not_lt.2 (Int.natCast_nonneg _)
  rw [← hkk]
  clear hkk
  go_wp2_with (first | (refine wpl_optG (by simp [Region.wanted, yielded, hkk0, Act.put]) (by rfl) (by rfl) C12.out ?_) | (refine wpl_optG (by simp [Region.wanted, yielded, hkk0, Act.put]) (by rfl) (by rfl) B13.out ?_))
  refine (eqOpt_l q _ _ m _ (by rw [HM.out] at P12 ⊢; exact P12.out.rd) (by rw [HM.out] at O12 ⊢; exact O12.out.rd)).mono ?_
  rintro e w11 ⟨rfl, hb⟩
  have L13 := Lib.hid (L12.out.trans (hb.mono L12.out.size))
  have X13 := Lib.hid (X12.out.below hb)
  have O13 := Lib.hid (O12.out.below hb)
  have P13 := Lib.hid (P12.out.below hb)
  have B14 := Lib.hid (B13.out.below hb)
  have C13 := Lib.hid (C12.out.below hb)
  clear hb L12 X12 O12 P12 B13 C12
  have S11 : Hid (W5.heap.size ≤ w11.heap.size) := Lib.hid (Nat.le_trans G6.out (Nat.le_of_lt C13.out.1))
  go_wp2_with (refine wpl_opt rfl (by rfl) (by rfl) C13.out ?_)
  refine (markOpt_l q A6 m p6 1 W5.heap.size q.ids w11 S11.out P13.out hmb (by omega)).mono ?_
  rintro e w12 ⟨rfl, ho, hg⟩
  have hLw5 : w.heap.size ≤ W5.heap.size := Nat.le_trans LW4.out (Nat.le_trans G5.out (Nat.le_of_lt F8.out))
  have L14 := Lib.hid (Below.only L13.out hg (fun g h => Nat.le_trans hLw5 (P13.out.lt g h).1) L13.out.size)
  have O14 := Lib.hid (O13.out.only (B' := W5.heap.size) (fun g hg' => by have := F4.out g hg'; have := G5.out; have := F8.out; omega) hg (fun g h => (P13.out.lt g h).1))
  have P14 := Lib.hid ho
  have X14 := Lib.hid (X13.out.only hg (fun g h => by have := (P13.out.lt g h).1; have := LB0.out; have := G5.out; have := F8.out; omega))
  have B15 := Lib.hid (B14.out.only hg (fun g h => by have := (P13.out.lt g h).1; have := F6.out; have := G5.out; have := F8.out; omega))
  have C14 := Lib.hid (C13.out.only hg (fun g h => by have := F9.out g h; omega))
  clear ho hg L13 O13 P13 X13 B14 C13 hLw5
  obtain ⟨n3, hn3⟩ : ∃ n3 : Int, n3 = ((1 + m : Nat) : Int) := ⟨_, rfl⟩
  have hn30 : ¬ (n3 < 0) := by rw [hn3]; exact Int.not_lt.2 (Int.natCast_nonneg _)
  have HN3 := Lib.hid hn3
  rw [← hn3]
  clear hn3
  go_wp2_with (refine wpl_opt rfl (by rfl) (by rfl) C14.out ?_)
  refine (heldOpt_l q A6 m p6 1 w12 P14.out.rd hmb (by omega)).mono ?_
  rintro e w13 ⟨rfl, hb⟩
  rw [← HN3.out]
  have L15 := Lib.hid (L14.out.trans (hb.mono L14.out.size))
  have O15 := Lib.hid (O14.out.below hb)
  have P15 := Lib.hid (P14.out.below hb)
  have X15 := Lib.hid (X14.out.below hb)
  have B16 := Lib.hid (B15.out.below hb)
  have C15 := Lib.hid (C14.out.below hb)
  clear hb L14 O14 P14 X14 B15 C14
  go_wp2_with (refine wpl_segL rfl (by rfl) (by rfl) X15.out ?_)
  refine (TS.out _ L15.out).mono ?_
  rintro e w14 ⟨A14, p14, ks14, rfl, ho, _, hb⟩
  have T14 := Lib.hid ho.rd
  have L16 := Lib.hid (L15.out.trans (hb.mono L15.out.size))
  have O16 := Lib.hid (O15.out.below hb)
  have P16 := Lib.hid (P15.out.below hb)
  have B17 := Lib.hid (B16.out.below hb)
  have C16 := Lib.hid (C15.out.below hb)
  clear ho hb L15 O15 P15 X15 B16 C15
  go_wp2_with fail
  refine (FI.out A14 p14 ks14 _ T14.out).mono ?_
  rintro e w15 ⟨iv3, rfl, ho, hb⟩
  obtain ⟨A15, p15, rfl⟩ := ho.shape
  have Q15 := Lib.hid ho
  have L17 := Lib.hid (L16.out.trans (hb.mono L16.out.size))
  have O17 := Lib.hid (O16.out.below hb)
  have P17 := Lib.hid (P16.out.below hb)
  have B18 := Lib.hid (B17.out.below hb)
  have C17 := Lib.hid (C16.out.below hb)
  clear ho hb L16 O16 P16 B17 C16 T14
  go_upto_region 25 with ((refine wpl_store_opt rfl (by rfl) (by rfl) (by rfl) ?_))
  obtain ⟨W7, hW7⟩ : ∃ W, W = w15.alloc (.cells (voC q (.slice A15 m p15)).toArray 27) := ⟨_, rfl⟩
  rw [← hW7]
  obtain ⟨b14, hb14⟩ : ∃ b, b = w15.heap.size := ⟨_, rfl⟩
  have D18 := Lib.hid (Bx.new w15 (voC q (.slice A15 m p15)).toArray 27)
  have E7 := Lib.hid ((Below.refl w15.heap.size w15).alloc (Nat.le_refl _) (.cells (voC q (.slice A15 m p15)).toArray 27))
  rw [← hW7] at D18 E7
  rw [← hb14] at D18 ⊢
  have L18 := Lib.hid (L17.out.trans (E7.out.mono L17.out.size))
  have O18 := Lib.hid (O17.out.below E7.out)
  have P18 := Lib.hid (P17.out.below E7.out)
  have Q18 := Lib.hid (Q15.out.below E7.out)
  have B19 := Lib.hid (B18.out.below E7.out)
  have C18 := Lib.hid (C17.out.below E7.out)
  clear hW7 hb14 E7 L17 O17 P17 Q15 B18 C17
  go_wp2_with (first | (refine wpl_opt rfl (by rfl) (by rfl) D18.out ?_) | (refine wpl_opt rfl (by rfl) (by rfl) B19.out ?_))
  refine (eqOpt_l q _ _ m _ (by rw [HM.out] at Q18 ⊢; exact Q18.out.rd) (by rw [HM.out] at O18 ⊢; exact O18.out.rd)).mono ?_
  rintro e w16 ⟨rfl, hb⟩
  have L19 := Lib.hid (L18.out.trans (hb.mono L18.out.size))
  have P19 := Lib.hid (P18.out.below hb)
  have C19 := Lib.hid (C18.out.below hb)
  clear hb L18 O18 P18 Q18 B19 C18 D18
  go_wp2_with (refine wpl_opt rfl (by rfl) (by rfl) C19.out ?_)
  refine (heldOpt_l q A6 m p6 1 w16 P19.out.rd hmb (by omega)).mono ?_
  rintro e w17 ⟨rfl, hb⟩
  rw [← HN3.out]
  have L20 := Lib.hid (L19.out.trans (hb.mono L19.out.size))
  clear hb
  go_wp2
  go_ret
  exact ⟨rfl, L20.out⟩
end Go.Proofs.Ytkgbkgonlopciaa

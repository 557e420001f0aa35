/- The walk of the law of ReadSeg. -/
import Derived.Test.YtkgbkgonlopciaaA33
import Derived.Test.YtkgbkgonlopciaaM11
import Derived.Deep.Cut
import Derived.Deep.RegionHeld
namespace Go.Proofs.Ytkgbkgonlopciaa
open Go.RowKit
set_option linter.unusedVariables false
set_option linter.unusedSimpArgs false
theorem szO_ok {o : OD} (h : optOk o = true) : szO o ≤ 48 := by
  have hk := optOk_kR h
  have hids := ids_le h
  have h2 := h
  unfold optOk at h2
  simp only [Bool.and_eq_true] at h2
  have hu : o = used o := (sameOD_iff _ _).1 h2.1.1.2
  have hf := List.all_eq_true.1 h2.2
  have hke : o.ke.size ≤ 20 := by
    have e := congrArg OD.ke hu
    rcases (show o.k = 1 ∨ o.k = 2 ∨ o.k = 3 ∨ o.k = 4 ∨ o.k = 5 ∨ o.k = 6 ∨ o.k = 7 ∨ o.k = 8 ∨ o.k = 9 ∨ o.k = 10 by omega) with k | k | k | k | k | k | k | k | k | k
    case inl =>
      have := hf (11, 8) (by rw [k]; decide)
      have h3 : o.ke.size = 8 := of_decide_eq_true this
      omega
    case inr.inr.inr.inr.inr.inr.inr.inr.inr =>
      have := hf (11, 8) (by rw [k]; decide)
      have h3 : o.ke.size = 8 := of_decide_eq_true this
      omega
    all_goals
      have h3 : (used o).ke = ⟨#[]⟩ := by unfold used; rw [k]; rfl
      rw [e, h3]
      decide
  have hma : o.ma.size ≤ 20 := by
    have e := congrArg OD.ma hu
    rcases (show o.k = 3 ∨ o.k = 4 ∨ o.k = 6 ∨ o.k = 1 ∨ o.k = 2 ∨ o.k = 5 ∨ o.k = 7 ∨ o.k = 8 ∨ o.k = 9 ∨ o.k = 10 by omega) with k | k | k | k | k | k | k | k | k | k
    case inl =>
      have := hf (12, 8) (by rw [k]; decide)
      have h3 : o.ma.size = 8 := of_decide_eq_true this
      omega
    case inr.inl =>
      have := hf (12, 20) (by rw [k]; decide)
      have h3 : o.ma.size = 20 := of_decide_eq_true this
      omega
    case inr.inr.inl =>
      have := hf (12, 8) (by rw [k]; decide)
      have h3 : o.ma.size = 8 := of_decide_eq_true this
      omega
    all_goals
      have h3 : (used o).ma = ⟨#[]⟩ := by unfold used; rw [k]; rfl
      rw [e, h3]
      decide
  unfold szO
  omega
theorem sumO_ok : ∀ {os : List OD}, (∀ o ∈ os, optOk o = true) → sumO os ≤ 48 * os.length
  | [], _ => by simp [sumO]
  | o :: os, h => by
    have h1 := szO_ok (h o List.mem_cons_self)
    have h2 := sumO_ok (os := os) (fun q hq => h q (List.mem_cons_of_mem _ hq))
    show szO o + sumO os ≤ 48 * (os.length + 1)
    omega
theorem readSI_bound (s : ByteArray) : ((readSI s).getD noX).ops.length ≤ 4 ∧ sumO ((readSI s).getD noX).ops ≤ 192 := by
  cases e : readSI s with
  | none => exact ⟨Nat.zero_le _, Nat.zero_le _⟩
  | some x =>
    have h := (readSI_some e).1
    have h4 := (segOk_le h).1
    have h5 : ∀ o ∈ x.ops, optOk o = true := by
      unfold segOk at h
      simp only [Bool.and_eq_true] at h
      exact List.all_eq_true.1 h.2
    have h6 := sumO_ok h5
    exact ⟨h4, Nat.le_trans h6 (by show 48 * x.ops.length ≤ 192; omega)⟩
/-- what the reading hands back, whether or not a segment was read -/
theorem GivesSeg.both {r : Option SD} {w w' : World} {e : Ending} (h : GivesSeg r w e w') :
    ∃ A cp ivs, e = .returned (.tuple #[vx (r.getD noX) (.slice A (r.getD noX).ops.length cp), .bool r.isSome]) ∧ ObO w' w.heap.size (.slice A (r.getD noX).ops.length cp) (r.getD noX).ops.length (r.getD noX).ops ivs ∧ Apt (.slice A (r.getD noX).ops.length cp) ivs ∧ Below w.heap.size w w' := by
  cases r with
  | none => exact ⟨none, 0, [], h.1, ObO.nil _ _, List.pairwise_singleton _ _, h.2⟩
  | some x =>
    obtain ⟨v, ivs, e, ho, ha, _, _, hb⟩ := h
    obtain ⟨A, cp, rfl, _⟩ := ho.rd.shape
    exact ⟨A, cp, ivs, e, ho, ha, hb⟩
set_option maxRecDepth 100000 in
set_option maxHeartbeats 6400000 in
theorem law_ReadSeg (s : ByteArray) (w : World) (hs : s.size ≤ maxLen) :
    Calls Try.prog 14 #[.string s] w fun e w' => e = .returned (.bool true) ∧ Below w.heap.size w w' := by
  unfold maxLen at hs
  by_cases c1 : s.size ≤ 1048576
  case neg =>
    go_enter Try.func14, Try.ntmps14
    go_wp2
    go_ret
    exact ⟨rfl, Below.refl _ _⟩
  obtain ⟨x, hx⟩ : ∃ x, x = (readSI s).getD noX := ⟨_, rfl⟩
  obtain ⟨bq, hbq⟩ : ∃ b, b = (readSI s).isSome := ⟨_, rfl⟩
  obtain ⟨n, hn⟩ : ∃ n, n = x.ops.length := ⟨_, rfl⟩
  have hbd := readSI_bound s
  rw [← hx, ← hn] at hbd
  have HKB : Hid (1 + 13 * n + sumO x.ops ≤ 4294967296) := Lib.hid (by omega)
  have HI : Hid (∀ V : World, Calls Try.prog 49 #[.string s] V fun e w' => ∃ A cp ivs, e = .returned (.tuple #[vx x (.slice A n cp), .bool bq]) ∧ ObO w' V.heap.size (.slice A n cp) n x.ops ivs ∧ Apt (.slice A n cp) ivs ∧ Below V.heap.size V w') := Lib.hid (fun V => (readSeg_i s V c1).mono (fun e w' h => by rw [hn, hx, hbq]; exact h.both))
  have HS : Hid (∀ V : World, Calls Try.prog 48 #[.string s] V fun e w' => ∃ A cp ivs, e = .returned (.tuple #[vx x (.slice A n cp), .bool bq]) ∧ ObO w' V.heap.size (.slice A n cp) n x.ops ivs ∧ Apt (.slice A n cp) ivs ∧ Below V.heap.size V w') := Lib.hid (fun V => (readSeg_s s V c1).mono (fun e w' h => by rw [hn, hx, hbq, read_same]; rw [← read_same] at h ⊢; exact h.both))
  have HL := Lib.hid hn
  clear hx hbq hn hbd
  go_enter Try.func14, Try.ntmps14
  go_wp2_with fail
  refine (HS.out w).mono ?_
  rintro e w1 ⟨A1, p1, iv1, rfl, ho, _, hb⟩
  have O1 := Lib.hid ho
  have L1 := Lib.hid hb
  clear ho hb
  go_upto_region 4 with ((refine wpl_store_seg rfl (by rfl) (by rfl) (by rfl) ?_))
  obtain ⟨W1, hW1⟩ : ∃ W, W = w1.alloc (.cells (vxC x (.slice A1 n p1)).toArray 37) := ⟨_, rfl⟩
  rw [← hW1]
  obtain ⟨b3, hb3⟩ : ∃ b, b = w1.heap.size := ⟨_, rfl⟩
  have B3 := Lib.hid (Bx.new w1 (vxC x (.slice A1 n p1)).toArray 37)
  have E1 := Lib.hid ((Below.refl w1.heap.size w1).alloc (Nat.le_refl _) (.cells (vxC x (.slice A1 n p1)).toArray 37))
  rw [← hW1] at B3 E1
  rw [← hb3] at B3 ⊢
  have L2 := Lib.hid (L1.out.trans (E1.out.mono L1.out.size))
  have O2 := Lib.hid (O1.out.below E1.out)
  have F3 : Hid (b3 < W1.heap.size) := Lib.hid B3.out.1
  have FW : Hid (w.heap.size ≤ W1.heap.size) := Lib.hid L2.out.size
  have FV : Hid (∀ g, (Value.slice A1 n p1).ownBlock = some g → g < W1.heap.size) := Lib.hid (fun g hg => (O2.out.row.lt g hg).2)
  have FI : Hid (∀ a ∈ iv1, ∀ g, a.ownBlock = some g → g < W1.heap.size) := Lib.hid O2.out.lts
  clear hW1 hb3 E1 O1 L1
  go_wp2_with fail
  refine (HI.out W1).mono ?_
  rintro e w2 ⟨A2, p2, iv2, rfl, ho, ha, hb⟩
  have P2 := Lib.hid ho
  have AP := Lib.hid ha
  have O3 := Lib.hid (O2.out.below hb)
  have B4 := Lib.hid (B3.out.below hb)
  have L3 := Lib.hid (L2.out.trans (hb.mono L2.out.size))
  have G2 : Hid (W1.heap.size ≤ w2.heap.size) := Lib.hid hb.size
  have PV : Hid (∀ g, (Value.slice A2 n p2).ownBlock = some g → g < w2.heap.size) := Lib.hid (fun g hg => (ho.row.lt g hg).2)
  have PI : Hid (∀ a ∈ iv2, ∀ g, a.ownBlock = some g → g < w2.heap.size) := Lib.hid ho.lts
  clear ho ha hb B3 L2 O2
  go_upto_region 5 with ((refine wpl_store_seg rfl (by rfl) (by rfl) (by rfl) ?_))
  obtain ⟨W2, hW2⟩ : ∃ W, W = w2.alloc (.cells (vxC x (.slice A2 n p2)).toArray 37) := ⟨_, rfl⟩
  rw [← hW2]
  obtain ⟨b5, hb5⟩ : ∃ b, b = w2.heap.size := ⟨_, rfl⟩
  have B5 := Lib.hid (Bx.new w2 (vxC x (.slice A2 n p2)).toArray 37)
  have E2 := Lib.hid ((Below.refl w2.heap.size w2).alloc (Nat.le_refl _) (.cells (vxC x (.slice A2 n p2)).toArray 37))
  rw [← hW2] at B5 E2
  rw [← hb5] at B5 G2 PV PI ⊢
  have L4 := Lib.hid (L3.out.trans (E2.out.mono L3.out.size))
  have O4 := Lib.hid (O3.out.below E2.out)
  have P4 := Lib.hid (P2.out.below E2.out)
  have B6 := Lib.hid (B4.out.below E2.out)
  clear hW2 hb5 E2 P2 L3 O3 B4
  go_wp2_with (first | (refine wpl_segI rfl (by rfl) (by rfl) B5.out ?_) | (refine wpl_segI rfl (by rfl) (by rfl) B6.out ?_))
  refine (eqSeg_l x _ _ n _ _ _ P4.out.rd O4.out.rd).mono ?_
  rintro e w3 ⟨rfl, hb⟩
  have L5 := Lib.hid (L4.out.trans (hb.mono L4.out.size))
  have O5 := Lib.hid (O4.out.below hb)
  have P5 := Lib.hid (P4.out.below hb)
  have B7 := Lib.hid (B5.out.below hb)
  have B8 := Lib.hid (B6.out.below hb)
  clear hb L4 O4 P4 B5 B6
  have S3 : Hid (b5 ≤ w3.heap.size) := Lib.hid (Nat.le_of_lt B7.out.1)
  go_wp2_with (first | (refine wpl_segI rfl (by rfl) (by rfl) B7.out ?_) | (refine wpl_segI rfl (by rfl) (by rfl) B8.out ?_))
  refine (markSeg_l x _ n iv2 1 W1.heap.size b5 w3 P5.out AP.out (Nat.le_trans G2.out S3.out) S3.out PV.out PI.out (Nat.le_refl 1) HKB.out).mono ?_
  rintro e w4 ⟨rfl, ho, hw⟩
  have L6 := Lib.hid (L5.out.trans ((hw.below (Nat.le_trans G2.out S3.out)).mono FW.out))
  have O6 : Hid (ObO w4 w.heap.size (.slice A1 n p1) n x.ops iv1) := Lib.hid ⟨O5.out.lo, O5.out.li, O5.out.row.wth (fun g hg => .inl (FV.out g hg)) hw, fun k p c hp hc => (O5.out.ids k p c hp hc).wth (fun g hg => .inl (FI.out c (List.mem_of_getElem? hc) g hg)) hw⟩
  have P6 := Lib.hid ho
  have B9 := Lib.hid (B7.out.wth (.inr (Nat.le_refl _)) hw)
  have B10 := Lib.hid (B8.out.wth (.inl F3.out) hw)
  clear ho hw L5 O5 P5 B7 B8
  obtain ⟨kk, hkk⟩ : ∃ k : Int, k = ((omE 1 x.ops : Nat) : Int) := ⟨_, rfl⟩
  have hkk0 : ¬ (kk < 0) := by rw [hkk]; exact Int.not_lt.2 (Int.natCast_nonneg _)
  have HKK := Lib.hid hkk
  rw [← hkk]
  clear hkk
  go_wp2_with (refine wpl_segI rfl (by rfl) (by rfl) B9.out ?_)
  refine (heldSeg_l x _ n x.ops iv2 1 w4 P6.out.rd (Nat.le_refl 1) HKB.out).mono ?_
  rintro e w5 ⟨rfl, hb⟩
  rw [← HKK.out]
  have L7 := Lib.hid (L6.out.trans (hb.mono L6.out.size))
  have O7 := Lib.hid (O6.out.below hb)
  have P7 := Lib.hid (P6.out.below hb)
  have B11 := Lib.hid (B9.out.below hb)
  have B12 := Lib.hid (B10.out.below hb)
  clear hb L6 O6 P6 B9 B10
  go_wp2_with fail
  refine (HI.out w5).mono ?_
  rintro e w6 ⟨A3, p3, iv3, rfl, ho, _, hb⟩
  have Q8 := Lib.hid ho
  have L8 := Lib.hid (L7.out.trans (hb.mono L7.out.size))
  have O8 := Lib.hid (O7.out.below hb)
  have P8 := Lib.hid (P7.out.below hb)
  have B13 := Lib.hid (B11.out.below hb)
  have B14 := Lib.hid (B12.out.below hb)
  clear ho hb L7 O7 P7 B11 B12
  go_upto_region 16 with ((refine wpl_store_seg rfl (by rfl) (by rfl) (by rfl) ?_))
  obtain ⟨W6, hW6⟩ : ∃ W, W = w6.alloc (.cells (vxC x (.slice A3 n p3)).toArray 37) := ⟨_, rfl⟩
  rw [← hW6]
  obtain ⟨b9, hb9⟩ : ∃ b, b = w6.heap.size := ⟨_, rfl⟩
  have C9 := Lib.hid (Bx.new w6 (vxC x (.slice A3 n p3)).toArray 37)
  have E6 := Lib.hid ((Below.refl w6.heap.size w6).alloc (Nat.le_refl _) (.cells (vxC x (.slice A3 n p3)).toArray 37))
  rw [← hW6] at C9 E6
  rw [← hb9] at C9 ⊢
  have L9 := Lib.hid (L8.out.trans (E6.out.mono L8.out.size))
  have O9 := Lib.hid (O8.out.below E6.out)
  have P9 := Lib.hid (P8.out.below E6.out)
  have Q9 := Lib.hid (Q8.out.below E6.out)
  have B15 := Lib.hid (B13.out.below E6.out)
  have B16 := Lib.hid (B14.out.below E6.out)
  clear hW6 hb9 E6 L8 O8 P8 Q8 B13 B14
  go_wp2_with (first | (refine wpl_segI rfl (by rfl) (by rfl) C9.out ?_) | (refine wpl_segI rfl (by rfl) (by rfl) B16.out ?_))
  refine (eqSeg_l x _ _ n _ _ _ Q9.out.rd O9.out.rd).mono ?_
  rintro e w7 ⟨rfl, hb⟩
  have L10 := Lib.hid (L9.out.trans (hb.mono L9.out.size))
  have P10 := Lib.hid (P9.out.below hb)
  have B17 := Lib.hid (B15.out.below hb)
  clear hb L9 O9 P9 Q9 B15 B16 C9
  go_wp2_with (refine wpl_segI rfl (by rfl) (by rfl) B17.out ?_)
  refine (heldSeg_l x _ n x.ops iv2 1 w7 P10.out.rd (Nat.le_refl 1) HKB.out).mono ?_
  rintro e w8 ⟨rfl, hb⟩
  rw [← HKK.out]
  have L11 := Lib.hid (L10.out.trans (hb.mono L10.out.size))
  clear hb
  go_wp2
  go_ret
  exact ⟨rfl, L11.out⟩
end Go.Proofs.Ytkgbkgonlopciaa

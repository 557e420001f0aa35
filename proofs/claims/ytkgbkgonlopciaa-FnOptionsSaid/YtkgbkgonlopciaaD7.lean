/- The walk of the draw of a right option. -/
import Derived.Test.YtkgbkgonlopciaaD6
import Derived.Test.YtkgbkgonlopciaaA27
import Derived.Deep.Cut
import Derived.Outline
import Derived.Deep.QuietTactic
import Derived.BigQuiet
import Derived.Deep.RegionHeld
namespace Go.Proofs.Ytkgbkgonlopciaa
open Go.RowKit
set_option linter.unusedVariables false
set_option linter.unusedSimpArgs false
abbrev St := Nat × Int
/-- one field is drawn -/
noncomputable def fldStep (xs : List Int) (f : Nat × Nat) (o : OD) (st : St) : OD × St :=
  if f.1 = 10 then (o.put f.1 (belowX xs 2 (belowN xs 200 st) : Nat) (belowX xs 2 (belowN xs 200 st) != 0) (str (longL f.2 (byteX xs (belowN xs 2 (belowN xs 200 st))))), byteN xs (belowN xs 2 (belowN xs 200 st)))
  else (o.put f.1 (belowX xs 200 st : Nat) (belowX xs 200 st != 0) (str (longL f.2 (byteX xs (belowN xs 200 st)))), byteN xs (belowN xs 200 st))
noncomputable def fldAll (xs : List Int) : List (Nat × Nat) → OD × St → OD × St
  | [], q => q
  | f :: L, q => fldAll xs L (fldStep xs f q.1 q.2)
/-- the numbers are drawn: place i, number id -/
noncomputable def idsK (xs : List Int) : Nat → Nat → Nat → St → List Int × St
  | 0, _, _, st => ([], st)
  | f + 1, i, id, st => if i < 1 + belowX xs 3 st then ((id : Int) :: (idsK xs f (i + 1) (id + 1 + belowX xs 5 (belowN xs 3 st)) (belowN xs 5 (belowN xs 3 st))).1, (idsK xs f (i + 1) (id + 1 + belowX xs 5 (belowN xs 3 st)) (belowN xs 5 (belowN xs 3 st))).2) else ([], belowN xs 3 st)
noncomputable def optK (xs : List Int) (k : Nat) (st : St) : OD × St :=
  if k = 8 then ({ (fldAll xs (lay k) (OD.new k [], st)).1 with ids := (idsK xs 4 0 (belowX xs 5 (fldAll xs (lay k) (OD.new k [], st)).2) (belowN xs 5 (fldAll xs (lay k) (OD.new k [], st)).2)).1 }, (idsK xs 4 0 (belowX xs 5 (fldAll xs (lay k) (OD.new k [], st)).2) (belowN xs 5 (fldAll xs (lay k) (OD.new k [], st)).2)).2)
  else fldAll xs (lay k) (OD.new k [], st)
noncomputable def optX (xs : List Int) (st : St) : OD × St := optK xs (1 + belowX xs 10 st) (belowN xs 10 st)
/-- an option has been drawn -/
def GivesO (v : Value) (n : Nat) (xs : List Int) (q : OD × St) (g : Nat) (w : World) (e : Ending) (w' : World) : Prop :=
  ∃ iv, e = .returned (vo q.1 iv) ∧ Obs w' w.heap.size 1 iv q.1.ids.length (q.1.ids.map vn) ∧ CurS v n xs w' g q.2 ∧ Grew w w' g ∧ q.1.wf ∧ q.1.ids.length ≤ 8
theorem Grew.size' {w w' : World} {g : Nat} (h : Grew w w' g) : w.heap.size ≤ w'.heap.size := h.size
theorem Blk.grewS {w w' : World} {g g' : Nat} {t : TypeId} {cs : List Value} (h : Blk w g t cs) (hg : Grew w w' g') (hne : g' < g) : Blk w' g t cs := h.grew hg (by omega)
set_option maxRecDepth 100000 in
set_option maxHeartbeats 6400000 in
theorem opt_u (v : Value) (n : Nat) (xs : List Int) (st : St) (g : Nat) (w : World) (hc : CurS v n xs w g st) : Calls Try.prog 94 #[.pointer (some ⟨g, 0, none⟩)] w (GivesO v n xs (optX xs st) g w) := by
  have hgl := hc.lt
  obtain ⟨R, hR⟩ : ∃ R, R = optX xs st := ⟨_, rfl⟩
  rw [← hR]
  have HR := Lib.hid hR
  obtain ⟨K0, hK0⟩ : ∃ K, K = belowX xs 10 st := ⟨_, rfl⟩
  have hK10 : K0 < 10 := by rw [hK0]; exact belowX_lt xs st (by omega)
  obtain ⟨s1, hs1⟩ : ∃ s, s = belowN xs 10 st := ⟨_, rfl⟩
  have HK0 := Lib.hid hK0
  have HS1 := Lib.hid hs1
  have HC := Lib.hid hc
  clear hR hK0 hs1 hc
  obtain ⟨i0, hi, hz0, hz1, hz2⟩ := info_parts i64_info
  go_enter Try.func94, Try.ntmps94
  go_upto_region 1 with (fail)
  obtain ⟨W, hW⟩ : ∃ W, W = w.alloc (.cells (voC (OD.new 0 []) (.slice none 0 0)).toArray 27) := ⟨_, rfl⟩
  change Code.wp _ _ _ _ (w.alloc (.cells (voC (OD.new 0 []) (.slice none 0 0)).toArray 27))
  rw [← hW]
  have E0 := (Below.refl w.heap.size w).alloc (Nat.le_refl _) (.cells (voC (OD.new 0 []) (.slice none 0 0)).toArray 27)
  have X0 := Lib.hid (Blk.new w 27 (voC (OD.new 0 []) (.slice none 0 0)).toArray)
  rw [← hW] at E0 X0
  have C0 := Lib.hid (HC.out.below E0)
  have G0 : Hid (Grew w W g) := Lib.hid (Grew.of_below E0)
  clear hW HC E0
  go_wp2_with fail
  refine (below_u v n xs st g 10 _ C0.out (by omega) (by omega)).mono ?_
  rw [← HK0.out, ← HS1.out]
  rintro e w1 ⟨rfl, hc1, hg1⟩
  have C1 := Lib.hid hc1
  have G1 := Lib.hid (G0.out.trans hg1)
  have X1 := Lib.hid (X0.out.grewS hg1 hgl)
  clear hc1 hg1 C0 G0 X0
  obtain ⟨K, hK⟩ : ∃ K, K = 1 + K0 := ⟨_, rfl⟩
  have eK : (1 : Int) + (K0 : Int) = (K : Int) := by rw [hK]; omega
  have HKK : Hid (1 ≤ (K : Int) ∧ (K : Int) ≤ 10) := Lib.hid (by omega)
  have HRK : Hid (R = optK xs K s1) := Lib.hid (by rw [HR.out, hK, HK0.out, HS1.out]; rfl)
  have hKb : K ≤ 10 := by omega
  clear hK
  go_upto_region 2 with (fail)
  obtain ⟨W3, hW3⟩ : ∃ W3, W3 = w1.alloc (.cells (voC (OD.new (K : Int) []) (.slice none 0 0)).toArray 27) := ⟨_, rfl⟩
  change Code.wp _ _ _ _ (w1.alloc (.cells (voC (OD.new (K : Int) []) (.slice none 0 0)).toArray 27))
  rw [← hW3]
  have E3 := (Below.refl w1.heap.size w1).alloc (Nat.le_refl _) (.cells (voC (OD.new (K : Int) []) (.slice none 0 0)).toArray 27)
  have X3 := Lib.hid (Blk.new w1 27 (voC (OD.new (K : Int) []) (.slice none 0 0)).toArray)
  rw [← hW3] at E3 X3
  have Y3 := Lib.hid (X1.out.below E3 X1.out.lt)
  have C3 := Lib.hid (C1.out.below E3)
  have G3 := Lib.hid (G1.out.trans (Grew.of_below E3))
  have hne : w.heap.size < w1.heap.size := X1.out.lt
  obtain ⟨b3, hb3⟩ : ∃ b, b = w1.heap.size := ⟨_, rfl⟩
  rw [← hb3] at X3 hne ⊢
  have S3 : Hid (b3 + 1 ≤ W3.heap.size) := Lib.hid X3.out.lt
  have HNE : Hid (g < w.heap.size ∧ w.heap.size < b3) := Lib.hid ⟨hgl, hne⟩
  clear hW3 hb3 E3 X1 C1 G1
  have k0 : W3.cell? ⟨b3, 0, none⟩ = some (.int .i64 (K : Int)) := X3.out.cell 0
  go_wp2_with fail
  refine (shape_s (K : Int) _ HKK.out).mono ?_
  rintro e w4 ⟨rfl, hb4⟩
  have X4 := Lib.hid (X3.out.below hb4 X3.out.lt)
  have Y4 := Lib.hid (Y3.out.below hb4 Y3.out.lt)
  have C4 := Lib.hid (C3.out.below hb4)
  have G4 := Lib.hid (G3.out.trans (Grew.of_below hb4))
  have S4 := Lib.hid (Nat.le_trans S3.out hb4.size)
  obtain ⟨m, hm⟩ : ∃ m, m = (lay (K : Int)).length := ⟨_, rfl⟩
  have hm4 : m ≤ 4 := by
    rw [hm]; unfold lay
    repeat' split
    all_goals simp
  obtain ⟨S, hS⟩ : ∃ S, S = shp (K : Int) := ⟨_, rfl⟩
  have hss : S.size = m * 2 := by rw [hS, hm]; exact shp_size (K : Int)
  rw [← hS]
  have HSP := Lib.hid hS
  have HMM2 := Lib.hid hm
  have HSS := Lib.hid hss
  clear hb4 k0 X3 Y3 C3 G3 S3 hm hS hss
  go_wp2
  go_loopw [5] (fun i wr => ∃ (j : Nat) (o : OD) (s2 : St), j ≤ m ∧ i = .int .i64 ((j * 2 : Nat) : Int) ∧ Hid (fldAll xs (lay (K : Int)) (OD.new (K : Int) [], s1) = fldAll xs ((lay (K : Int)).drop j) (o, s2)) ∧ Hid o.wf ∧ Hid (o.ids = []) ∧ Hid (o.k = (K : Int)) ∧ Hid (Blk wr b3 27 (voC o (.slice none 0 0))) ∧ Hid (Blk wr w.heap.size 27 (voC (OD.new 0 []) (.slice none 0 0))) ∧ Hid (CurS v n xs wr g s2) ∧ Hid (Grew w wr g) ∧ Hid (b3 + 1 ≤ wr.heap.size)) (fun i _ => m * 2 - (intOf i).toNat)
  case atStart => exact ⟨0, _, s1, Nat.zero_le _, rfl, Lib.hid rfl, Lib.hid (wf_new (i64R_nat (by omega)) (by simp)), Lib.hid rfl, Lib.hid rfl, X4, Y4, C4, G4, S4⟩
  case round =>
    clear X4 Y4 C4 G4 S4
    obtain ⟨j, o, s2, hj, rfl, HF, HV, HI, HOK, X4, Y4, C4, G4, S4⟩ := hrel
    by_cases hlt : j < m
    case neg =>
      obtain rfl : j = m := by omega
      have HF' : Hid (fldAll xs (lay (K : Int)) (OD.new (K : Int) [], s1) = (o, s2)) := Lib.hid (by rw [HF.out, HMM2.out, List.drop_length]; rfl)
      have q1 : ¬ (((j * 2 : Nat) : Int) + 1 < (S.size : Int)) := by have := HSS.out; omega
      have k0 : wr.cell? ⟨b3, 0, none⟩ = some (.int .i64 (K : Int)) := by rw [← HOK.out]; exact X4.out.cell 0
      by_cases h8 : K = 8
      case neg =>
        have q4 : ((K : Int) == 8) = false := by simp; omega
        have HRO : Hid (R = (o, s2)) := Lib.hid (by rw [HRK.out]; unfold optK; rw [if_neg h8, HF'.out])
        clear h8
        go_wp2_with (first | (refine wpl_opt (o := o) rfl (by rfl) (by rfl) (Bx.of_blk X4.out) ?_) | (refine wpl_store_optM (o := o) rfl (by rfl) (by rfl) (by rfl) Y4.out rfl ?_))
        refine bodyPost_ret (results_opt rfl (by rfl) (Bx.setCells (vs := voC o (.slice none 0 0)) Y4.out rfl)) rfl ?_
        rw [HRO.out]
        have BT : Below w.heap.size wr (wr.setCells w.heap.size 0 (voC o (.slice none 0 0))) := Below.setCells' (Below.refl _ _) (Nat.le_refl _) _ _
        exact ⟨.slice none 0 0, rfl, by rw [show (o, s2).1.ids = [] from HI.out]; exact Obs.nil _ _ _, C4.out.belowB BT hgl, G4.out.below_trans BT, HV.out, by rw [show (o, s2).1.ids = [] from HI.out]; exact Nat.zero_le _⟩
      have q4 : ((K : Int) == 8) = true := by simp; omega
      obtain ⟨id0, hid0⟩ : ∃ x, x = belowX xs 5 s2 := ⟨_, rfl⟩
      obtain ⟨st0, hst0⟩ : ∃ s, s = belowN xs 5 s2 := ⟨_, rfl⟩
      have hid5 : id0 < 5 := by rw [hid0]; exact belowX_lt xs s2 (by omega)
      have HRO : Hid (R = ({ o with ids := (idsK xs 4 0 id0 st0).1 }, (idsK xs 4 0 id0 st0).2)) := Lib.hid (by rw [HRK.out]; unfold optK; rw [if_pos h8, HF'.out, hid0, hst0])
      have HID := Lib.hid hid0
      have HST0 := Lib.hid hst0
      clear h8 hid0 hst0
      go_wp2_with fail
      refine (below_u v n xs s2 g 5 _ C4.out (by omega) (by omega)).mono ?_
      rw [← HID.out, ← HST0.out]
      rintro e w5 ⟨rfl, hc, hg⟩
      have C5 := Lib.hid hc
      have G5 := Lib.hid (G4.out.trans hg)
      have X5 := Lib.hid (X4.out.grewS hg (by omega))
      have Y5 := Lib.hid (Y4.out.grewS hg hgl)
      have S5 := Lib.hid (Nat.le_trans S4.out hg.size)
      clear hc hg C4 G4 X4 Y4 S4 k0
      go_wp2
      obtain ⟨wo, rfl⟩ : ∃ wo : World, wo = wr := ⟨_, rfl⟩
      go_loopw [8, 9] (fun d i wr => ∃ (k id cv : Nat) (Av : Option Addr) (l : List Int) (st2 : St), k ≤ 3 ∧ id ≤ 5 + 6 * k ∧ i = .int .i64 (k : Int) ∧ d = .int .i64 (id : Int) ∧ Hid (l.length = k ∧ ∀ x ∈ l, i64R x) ∧ Hid (idsK xs 4 0 id0 st0 = (l ++ (idsK xs (4 - k) k id st2).1, (idsK xs (4 - k) k id st2).2)) ∧ Hid (Obs wr (b3 + 1) 1 (.slice Av k cv) k (l.map vn)) ∧ Hid (Blk wr b3 27 (voC o (.slice Av k cv))) ∧ Hid (Blk wr w.heap.size 27 (voC (OD.new 0 []) (.slice none 0 0))) ∧ Hid (CurS v n xs wr g st2) ∧ Hid (Grew w wr g) ∧ Hid (b3 + 1 ≤ wr.heap.size)) (fun _ i _ => 4 - (intOf i).toNat)
      case atStart => exact ⟨0, id0, 0, none, [], st0, by omega, by omega, rfl, rfl, Lib.hid ⟨rfl, fun x h => by cases h⟩, Lib.hid (by simp), Lib.hid (Obs.nil _ _ _), X5, Y5, C5, G5, S5⟩
      case round =>
        clear X5 Y5 C5 G5 S5
        obtain ⟨k, id, cv, Av, l, st2, hk, hidb, rfl, rfl, HLL, HIK, OV, X5, Y5, C5, G5, S5⟩ := hrel
        obtain ⟨bd, hbd⟩ : ∃ x, x = belowX xs 3 st2 := ⟨_, rfl⟩
        obtain ⟨sb, hsb⟩ : ∃ s, s = belowN xs 3 st2 := ⟨_, rfl⟩
        have hbd3 : bd < 3 := by rw [hbd]; exact belowX_lt xs st2 (by omega)
        have HBD := Lib.hid hbd
        have HSB := Lib.hid hsb
        have e4k : 4 - k = (3 - k) + 1 := by omega
        have HIK2 : Hid (idsK xs (4 - k) k id st2 = if k < 1 + bd then ((id : Int) :: (idsK xs (3 - k) (k + 1) (id + 1 + belowX xs 5 sb) (belowN xs 5 sb)).1, (idsK xs (3 - k) (k + 1) (id + 1 + belowX xs 5 sb) (belowN xs 5 sb)).2) else ([], sb)) := Lib.hid (by
          rw [e4k, hbd, hsb]; rfl)
        clear hbd hsb e4k
        go_wp2_with fail
        refine (below_u v n xs st2 g 3 _ C5.out (by omega) (by omega)).mono ?_
        rw [← HBD.out, ← HSB.out]
        rintro e w6 ⟨rfl, hc, hg⟩
        have C6 := Lib.hid hc
        have G6 := Lib.hid (G5.out.trans hg)
        have X6 := Lib.hid (X5.out.grewS hg (by omega))
        have Y6 := Lib.hid (Y5.out.grewS hg hgl)
        have S6 := Lib.hid (Nat.le_trans S5.out hg.size)
        have O6 := Lib.hid (OV.out.grew hg (fun q hq => by have := (OV.out.lt q hq).1; omega))
        clear hc hg C5 G5 X5 Y5 S5 OV
        by_cases hlt2 : k < 1 + bd
        case neg =>
          have q5 : ¬ ((k : Int) < 1 + (bd : Int)) := by omega
          have HEND : Hid (R = ({ o with ids := l }, sb)) := Lib.hid (by rw [HRO.out, HIK.out, HIK2.out, if_neg hlt2, List.append_nil])
          clear hlt2
          go_wp2_with (first | (refine wpl_opt (o := o) rfl (by rfl) (by rfl) (Bx.of_blk X6.out) ?_) | (refine wpl_store_optM (o := o) rfl (by rfl) (by rfl) (by rfl) Y6.out rfl ?_))
          refine bodyPost_ret (results_opt rfl (by rfl) (Bx.setCells (vs := voC o (.slice Av k cv)) Y6.out rfl)) rfl ?_
          rw [HEND.out]
          have BT : Below w.heap.size w6 (w6.setCells w.heap.size 0 (voC o (.slice Av k cv))) := Below.setCells' (Below.refl _ _) (Nat.le_refl _) _ _
          refine ⟨.slice Av k cv, rfl, ?_, C6.out.belowB BT hgl, G6.out.below_trans BT, ⟨HV.out.1, HV.out.2.1, HLL.out.2⟩, by show l.length ≤ 8; have := HLL.out.1; omega⟩
          show Obs _ _ 1 _ l.length _
          rw [HLL.out.1]
          exact (O6.out.farS (by omega) _ _).mono (by omega)
        have q5 : (k : Int) < 1 + (bd : Int) := by omega
        have x13 : w6.cell? ⟨b3, 13, none⟩ = some (.slice Av k cv) := X6.out.cell 13
        go_upto_region 17 with (at_builtin; refine wpList_append_obs2 _ rfl _ _ 22 rfl (b3 + 1) 3 i0 (.int .i64 0) 1 8 Try.underlying22 hi hz0 hz1 hz2 rfl (by decide) _ k _ rfl (O6.out.alloc _) (b3 + 1) _ 1 _ rfl (obs_one w6 3 (.int .i64 (id : Int)) (b3 + 1) S6.out) (by intro u hu; obtain rfl := List.mem_singleton.1 hu; rfl) (by unfold maxLen; omega) (by omega) (by have := S6.out; simp; omega) ?_; intro v3 w7 hown3 hb3 hg3; have O7 := Lib.hid hown3; have HB7 := Lib.hid hb3; obtain ⟨A3, c3, rfl⟩ := O7.out.shape; have y13 : w7.cell? ⟨b3, 13, none⟩ = some (.slice Av k cv) := ((X6.out.alloc (.cells #[.int .i64 (id : Int)] 3)).below hb3 (by omega)).cell 13; have f13 := ((X6.out.alloc (.cells #[.int .i64 (id : Int)] 3)).below hb3 (by omega)).frozen 13; clear hown3 hb3 hg3)
        have X7 := Lib.hid ((X6.out.alloc (.cells #[.int .i64 (id : Int)] 3)).below HB7.out (by omega))
        have Y7 := Lib.hid ((Y6.out.alloc (.cells #[.int .i64 (id : Int)] 3)).below HB7.out (by omega))
        have C7 := Lib.hid ((C6.out.below ((Below.refl _ _).alloc (Nat.le_refl _) (.cells #[.int .i64 (id : Int)] 3))).belowB HB7.out (by omega))
        have G7 := Lib.hid ((G6.out.trans (Grew.of_below ((Below.refl _ _).alloc (Nat.le_refl _) (.cells #[.int .i64 (id : Int)] 3)))).below_trans (HB7.out.mono (by omega)))
        have S7 : Hid (b3 + 1 ≤ w7.heap.size) := Lib.hid (Nat.le_trans (by have := S6.out; simp; omega) HB7.out.size)
        have O7' : Hid (Obs w7 (b3 + 1) 1 (.slice A3 (k + 1) c3) (k + 1) ((l ++ [(id : Int)]).map vn)) := Lib.hid (by rw [List.map_append]; exact O7.out)
        clear x13 X6 Y6 C6 G6 S6 O6 O7 HB7
        obtain ⟨W8, hW8⟩ : ∃ W, W = w7.setCell ⟨b3, 13, none⟩ (.slice A3 (k + 1) c3) := ⟨_, rfl⟩
        rw [← hW8]
        have X8 : Hid (Blk W8 b3 27 (voC o (.slice A3 (k + 1) c3))) := Lib.hid (by rw [hW8]; exact X7.out.set_ 13 _)
        have Y8 : Hid (Blk W8 w.heap.size 27 (voC (OD.new 0 []) (.slice none 0 0))) := Lib.hid (by rw [hW8]; exact Y7.out.far (by dsimp only; omega) _)
        have BT : Below b3 w7 W8 := by rw [hW8]; exact (Below.refl _ _).setCell (by dsimp only; omega) _
        have C8 := Lib.hid (C7.out.belowB BT (by omega))
        have G8 := Lib.hid (G7.out.below_trans (BT.mono (by omega)))
        have O8 : Hid (Obs W8 (b3 + 1) 1 (.slice A3 (k + 1) c3) (k + 1) ((l ++ [(id : Int)]).map vn)) := Lib.hid (by rw [hW8]; exact O7'.out.far (by dsimp only; omega) _)
        have S8 : Hid (b3 + 1 ≤ W8.heap.size) := Lib.hid (Nat.le_trans S7.out BT.size)
        clear hW8 y13 f13 X7 Y7 C7 G7 S7 O7' BT
        obtain ⟨cd, hcd⟩ : ∃ x, x = belowX xs 5 sb := ⟨_, rfl⟩
        obtain ⟨sd, hsd⟩ : ∃ s, s = belowN xs 5 sb := ⟨_, rfl⟩
        have hcd5 : cd < 5 := by rw [hcd]; exact belowX_lt xs sb (by omega)
        have HCD := Lib.hid hcd
        have HSD := Lib.hid hsd
        have HIK3 : Hid (idsK xs 4 0 id0 st0 = ((l ++ [(id : Int)]) ++ (idsK xs (4 - (k + 1)) (k + 1) (id + 1 + cd) sd).1, (idsK xs (4 - (k + 1)) (k + 1) (id + 1 + cd) sd).2)) := Lib.hid (by
          rw [HIK.out, HIK2.out, if_pos hlt2, ← hcd, ← hsd, show 4 - (k + 1) = 3 - k by omega, List.append_assoc]; rfl)
        have HLL2 : Hid ((l ++ [(id : Int)]).length = k + 1 ∧ ∀ x ∈ l ++ [(id : Int)], i64R x) := Lib.hid ⟨by rw [List.length_append, HLL.out.1]; rfl, fun x hx => by
          rcases List.mem_append.1 hx with hx | hx
          · exact HLL.out.2 x hx
          · obtain rfl := List.mem_singleton.1 hx
            exact i64R_nat (by omega)⟩
        have hk2 : k + 1 ≤ 3 := by omega
        clear hcd hsd hlt2 q5
        go_wp2_with fail
        refine (below_u v n xs sb g 5 _ C8.out (by omega) (by omega)).mono ?_
        rw [← HCD.out, ← HSD.out]
        rintro e w9 ⟨rfl, hc, hg⟩
        have C9 := Lib.hid hc
        have G9 := Lib.hid (G8.out.trans hg)
        have X9 := Lib.hid (X8.out.grewS hg (by omega))
        have Y9 := Lib.hid (Y8.out.grewS hg hgl)
        have S9 := Lib.hid (Nat.le_trans S8.out hg.size)
        have O9 := Lib.hid (O8.out.grew hg (fun q hq => by have := (O8.out.lt q hq).1; omega))
        clear hc hg C8 G8 X8 Y8 S8 O8
        go_wp2
        go_roundw
        case rel => exact ⟨k + 1, id + 1 + cd, c3, A3, _, sd, hk2, by omega, by go_num, by go_num, HLL2, HIK3, O9, X9, Y9, C9, G9, S9⟩
        case measure => (simp [intOf]; try omega)
    have q1 : (((j * 2 : Nat) : Int) + 1 < (S.size : Int)) := by have := HSS.out; omega
    have hfl : j < (lay (K : Int)).length := by have := HMM2.out; omega
    obtain ⟨i1, i12, m1, m20⟩ := lay_at hfl
    obtain ⟨h1, h2, e1, e2⟩ := shp_at hfl
    have hwd := lay_w hfl
    have hdrop : (lay (K : Int)).drop j = (lay (K : Int))[j]'hfl :: (lay (K : Int)).drop (j + 1) := List.drop_eq_getElem_cons hfl
    obtain ⟨⟨i, m2⟩, hf⟩ : ∃ f, f = (lay (K : Int))[j]'hfl := ⟨_, rfl⟩
    rw [← hf] at i1 i12 m1 m20 e1 e2 hwd hdrop
    dsimp only at i1 i12 m1 m20 e1 e2 hwd
    have HDR := Lib.hid hdrop
    obtain ⟨p, hp⟩ : ∃ p, p = j * 2 := ⟨_, rfl⟩
    have HP := Lib.hid hp
    have hp8 : p ≤ 8 := by omega
    have hpb : p < S.size := by have := HSS.out; omega
    have hpb1 : p + 1 < S.size := by have := HSS.out; omega
    have e3 : S[p]'hpb = ltr i := by
      have h3 := HSP.out
      subst h3; subst hp
      exact e1
    have e4 : S[p + 1]'hpb1 = wsg m2 := by
      have h3 := HSP.out
      subst h3; subst hp
      exact e2
    have hpx : ((p : Int) + 1).toNat < S.size := by omega
    have e4' : S[((p : Int) + 1).toNat]'hpx = wsg m2 := by
      have : ((p : Int) + 1).toNat = p + 1 := by omega
      simp only [this]
      exact e4
    have wp1 : IntKind.i64.wrap ((p : Int) + 1) = (p : Int) + 1 := IntWalk.i64_in _ (by omega)
    have gp0 : (0 : Int) ≤ (p : Int) + 1 := by omega
    rw [← hp] at q1 ⊢
    have HWD := Lib.hid hwd
    clear hf hfl hdrop e1 e2 h1 h2 hwd hp
    go_wp2_with fail
    refine (wide_s m2 _ HWD.out).mono ?_
    rintro e w6 ⟨rfl, rfl⟩
    obtain ⟨N0, hN0⟩ : ∃ N, N = belowX xs 200 s2 := ⟨_, rfl⟩
    have hN0l : N0 < 200 := by rw [hN0]; exact belowX_lt xs s2 (by omega)
    obtain ⟨sa, hsa⟩ : ∃ s, s = belowN xs 200 s2 := ⟨_, rfl⟩
    have HN0 := Lib.hid hN0
    have HSA := Lib.hid hsa
    clear hN0 hsa
    go_wp2_with fail
    refine (below_u v n xs s2 g 200 _ C4.out (by omega) (by omega)).mono ?_
    rw [← HN0.out, ← HSA.out]
    rintro e w6 ⟨rfl, hc, hg⟩
    have C5 := Lib.hid hc
    have G5 := Lib.hid (G4.out.trans hg)
    have X5 := Lib.hid (X4.out.grewS hg (by omega))
    have Y5 := Lib.hid (Y4.out.grewS hg hgl)
    have S5 := Lib.hid (Nat.le_trans S4.out hg.size)
    clear hc hg C4 G4 X4 Y4 S4
    by_cases hi10 : i = 10
    · have q2 : (((ltr i).toNat : Int) == 102) = true := by rw [hi10]; rfl
      obtain ⟨N, hN⟩ : ∃ N, N = belowX xs 2 sa := ⟨_, rfl⟩
      have hNl : N < 2 := by rw [hN]; exact belowX_lt xs sa (by omega)
      obtain ⟨s3, hs3⟩ : ∃ s, s = belowN xs 2 sa := ⟨_, rfl⟩
      obtain ⟨bb, hbq⟩ : ∃ b, b = byteX xs s3 := ⟨_, rfl⟩
      obtain ⟨s4, hs4⟩ : ∃ s, s = byteN xs s3 := ⟨_, rfl⟩
      obtain ⟨TT, hTT⟩ : ∃ T, T = str (longL m2 bb) := ⟨_, rfl⟩
      obtain ⟨u, hu⟩ : ∃ u, u = o.put i (N : Int) (N != 0) TT := ⟨_, rfl⟩
      have HF2 : Hid (fldAll xs (lay (K : Int)) (OD.new (K : Int) [], s1) = fldAll xs ((lay (K : Int)).drop (j + 1)) (u, s4)) := Lib.hid (by
        rw [HF.out, HDR.out]
        show fldAll xs _ (fldStep xs (i, m2) o s2) = _
        unfold fldStep
        rw [if_pos hi10, ← HSA.out, ← hN, ← hs3, ← hbq, ← hs4, ← hTT, ← hu])
      have HN := Lib.hid hN
      have HS3 := Lib.hid hs3
      have HB := Lib.hid hbq
      have HS4 := Lib.hid hs4
      have HTT := Lib.hid hTT
      have HU := Lib.hid hu
      have HV2 : Hid u.wf := Lib.hid (by rw [hu]; exact wf_put HV.out i (i64R_nat (by omega)) (by rw [hTT, str_size]; unfold longL maxLen; rw [List.length_replicate]; omega))
      have HI2 : Hid (u.ids = []) := Lib.hid (by rw [hu, put_ids]; exact HI.out)
      have HK2 : Hid (u.k = (K : Int)) := Lib.hid (by rw [hu, put_k]; exact HOK.out)
      clear hN hs3 hbq hs4 hTT hu hi10
      go_wp2_with fail
      refine (below_u v n xs sa g 2 _ C5.out (by omega) (by omega)).mono ?_
      rw [← HN.out, ← HS3.out]
      rintro e w7 ⟨rfl, hc, hg⟩
      have C4 := Lib.hid hc
      have G4 := Lib.hid (G5.out.trans hg)
      have X4 := Lib.hid (X5.out.grewS hg (by omega))
      have Y4 := Lib.hid (Y5.out.grewS hg hgl)
      have S4 := Lib.hid (Nat.le_trans S5.out hg.size)
      clear hc hg C5 G5 X5 Y5 S5
      have CC := Lib.hid (C4.out.below (Below.refl _ _).drew)
      have GG := Lib.hid G4.out.drew
      have XX := Lib.hid X4.out.drew
      have YY := Lib.hid Y4.out.drew
      have SS := S4
      clear C4 G4 X4 Y4 S4
      have hbb : bb < 256 := by rw [HB.out]; exact byteX_lt _ _
      have wx8 : IntKind.u8.wrap (bb : Int) = (bb : Int) := by rw [IntKind.wrap_u8]; omega
      go_wp2_with fail
      refine wp_region_any (by kernel_rfl) ?_
      try (change wpAny _ _ _ _ _ _ _ (World.drew _))
      refine wpAny_take (i := 1) (oi := ⟨some 38, _, _, _, _, _⟩) (v := ?_) rfl (by kernel_rfl) (by kernel_rfl) (by kernel_rfl) (fun _ _ _ h => h) (Or.inl ⟨by rfl, ?_⟩) ?_
      rotate_left
      · (intro w; go_simp; try (with_reducible rfl))
      try simp only [Act.put, List.setIfInBounds_toArray, List.set_cons_zero, List.set_cons_succ]
      refine wpAny_take (i := 2) (oi := ⟨some 39, _, _, _, _, _⟩) (v := ?_) rfl (by kernel_rfl) (by kernel_rfl) (by kernel_rfl) (fun _ _ _ h => h) (Or.inl ⟨by rfl, ?_⟩) ?_
      rotate_left
      · (intro w; go_simp; try (with_reducible rfl))
      try simp only [Act.put, List.setIfInBounds_toArray, List.set_cons_zero, List.set_cons_succ]
      refine wpAny_take (i := 3) (oi := ⟨some 40, _, _, _, _, _⟩) (v := ?_) rfl (by kernel_rfl) (by kernel_rfl) (by kernel_rfl) (fun _ _ _ h => h) (Or.inl ⟨by rfl, ?_⟩) ?_
      rotate_left
      · (intro w; go_simp; try (with_reducible rfl))
      try simp only [Act.put, List.setIfInBounds_toArray, List.set_cons_zero, List.set_cons_succ]
      refine wpAny_take (i := 4) (oi := ⟨some 41, _, _, _, _, _⟩) (v := ?_) rfl (by kernel_rfl) (by kernel_rfl) (by kernel_rfl) (fun _ _ _ h => h) (Or.inl ⟨by rfl, ?_⟩) ?_
      rotate_left
      · (intro w; go_simp; try (with_reducible rfl))
      try simp only [Act.put, List.setIfInBounds_toArray, List.set_cons_zero, List.set_cons_succ]
      refine wpAny_take (i := 5) (oi := ⟨some 42, _, _, _, _, _⟩) (v := ?_) rfl (by kernel_rfl) (by kernel_rfl) (by kernel_rfl) (fun _ _ _ h => h) (Or.inl ⟨by rfl, ?_⟩) ?_
      rotate_left
      · (intro w; go_simp; try (with_reducible rfl))
      try simp only [Act.put, List.setIfInBounds_toArray, List.set_cons_zero, List.set_cons_succ]
      refine wpAny_take (i := 6) (oi := ⟨some 43, _, _, _, _, _⟩) (v := ?_) rfl (by kernel_rfl) (by kernel_rfl) (by kernel_rfl) (fun _ _ _ h => h) (Or.inl ⟨by rfl, ?_⟩) ?_
      rotate_left
      · (intro w; go_simp; try (with_reducible rfl))
      try simp only [Act.put, List.setIfInBounds_toArray, List.set_cons_zero, List.set_cons_succ]
      refine wpAny_ready (rs := [0, 7]) (by kernel_rfl) (by simp) ?_
      refine AllReady.cons (o := ⟨some 37, _, _, _, _, _⟩) rfl (fun K hK => ?_) (AllReady.cons (o := ⟨some 44, _, _, _, _, _⟩) rfl (fun K hK => ?_) AllReady.nil)
      · skip
        rw [if_pos (by kernel_rfl)]
        refine wp_load_mid 27 _ (by rfl) b3 0 (by rfl) (voC o (.slice none 0 0)) _ (fun j x hj => by rw [Nat.zero_add]; exact (Bx.of_blk XX.out).2 j x hj) Try.underlying27 rfl (by kernel_rfl) ?_
        rw [← vo_voC]
        refine hK _ _ ?_; clear hK K
        try simp only [Act.put, List.setIfInBounds_toArray, List.set_cons_zero, List.set_cons_succ]
        refine wpAny_ready (rs := [7]) (by kernel_rfl) (by simp) ?_
        refine AllReady.cons (o := ⟨some 44, _, _, _, _, _⟩) rfl (fun K hK => ?_) AllReady.nil
        go_simp
        go_at_call 95
        refine (byte_u v n xs s3 g _ CC.out).mono ?_
        rw [← HB.out, ← HS4.out]
        rintro e V1 ⟨rfl, hc, hg⟩
        have CC := Lib.hid hc
        have GG := Lib.hid (GG.out.trans hg)
        have XX := Lib.hid (XX.out.grewS hg (by have := HNE.out; omega))
        have YY := Lib.hid (YY.out.grewS hg hgl)
        have SS := Lib.hid (Nat.le_trans SS.out hg.size)
        clear hc hg
        try go_wp2_with fail
        try (refine hK _ _ ?_; clear hK K)
        try simp only [Act.put, List.setIfInBounds_toArray, List.set_cons_zero, List.set_cons_succ]
        refine wpAny_take (i := 8) (oi := ⟨some 45, _, _, _, _, _⟩) (v := ?_) rfl (by kernel_rfl) (by kernel_rfl) (by kernel_rfl) (fun _ _ _ h => h) (Or.inl ⟨by rfl, ?_⟩) ?_
        rotate_left
        · (intro w; go_simp; try (with_reducible rfl))
        try simp only [Act.put, List.setIfInBounds_toArray, List.set_cons_zero, List.set_cons_succ]
        refine wpAny_ready (rs := [9]) (by kernel_rfl) (by simp) ?_
        refine AllReady.cons (o := ⟨some 46, _, _, _, _, _⟩) rfl (fun K hK => ?_) AllReady.nil
        go_simp
        go_at_call 93
        refine (long_s m2 bb _ (by omega) hbb).mono ?_
        rw [← HTT.out]
        rintro e V2 ⟨rfl, hb⟩
        have CC := Lib.hid (CC.out.below hb)
        have GG := Lib.hid (GG.out.trans (Grew.of_below hb))
        have XX := Lib.hid (XX.out.below hb XX.out.lt)
        have YY := Lib.hid (YY.out.below hb YY.out.lt)
        have SS := Lib.hid (Nat.le_trans SS.out hb.size)
        clear hb
        try go_wp2_with fail
        try (refine hK _ _ ?_; clear hK K)
        try simp only [Act.put, List.setIfInBounds_toArray, List.set_cons_zero, List.set_cons_succ]
        refine wpAny_ready (rs := [10]) (by kernel_rfl) (by simp) ?_
        refine AllReady.cons (o := ⟨some 47, _, _, _, _, _⟩) rfl (fun K hK => ?_) AllReady.nil
        go_simp
        go_at_call 89
        refine (put_s o none 0 0 N i TT _ i1 i12).mono ?_
        rw [← HU.out]
        rintro e V3 ⟨rfl, hb⟩
        have CC := Lib.hid (CC.out.below hb)
        have GG := Lib.hid (GG.out.trans (Grew.of_below hb))
        have XX := Lib.hid (XX.out.below hb XX.out.lt)
        have YY := Lib.hid (YY.out.below hb YY.out.lt)
        have SS := Lib.hid (Nat.le_trans SS.out hb.size)
        clear hb
        try go_wp2_with fail
        try (refine hK _ _ ?_; clear hK K)
        try simp only [Act.put, List.setIfInBounds_toArray, List.set_cons_zero, List.set_cons_succ]
        refine wpAny_ready (rs := [11]) (by kernel_rfl) (by simp) ?_
        refine AllReady.cons (o := ⟨none, _, _, _, _, _⟩) rfl (fun K hK => ?_) AllReady.nil
        rw [if_pos (by kernel_rfl)]
        refine wp_store_mid 27 _ _ (by rfl) b3 0 (voC u (.slice none 0 0)).toArray (by rfl) (by rfl) (XX.out.there _ rfl) (by kernel_rfl) (voC_one u _ _ _) ?_
        refine hK _ _ ?_; clear hK K
        try simp only [Act.put, List.setIfInBounds_toArray, List.set_cons_zero, List.set_cons_succ]
        refine wpAny_done (by kernel_rfl) ?_ _
        obtain ⟨w7, hw7⟩ : ∃ w7, w7 = V3.setCells b3 0 (voC u (.slice none 0 0)).toArray.toList := ⟨_, rfl⟩
        rw [← hw7]
        rw [show (voC u (.slice none 0 0)).toArray.toList = voC u (.slice none 0 0) from rfl] at hw7
        have T3 : Hid (Blk w7 b3 27 (voC u (.slice none 0 0))) := Lib.hid (by rw [hw7]; exact XX.out.setCells rfl)
        have T4 : Hid (Blk w7 w.heap.size 27 (voC (OD.new 0 []) (.slice none 0 0))) := Lib.hid (by rw [hw7]; exact YY.out.farS (by have := HNE.out; omega) _ _)
        have BT : Below b3 V3 w7 := by rw [hw7]; exact Below.setCells' (Below.refl _ _) (Nat.le_refl _) _ _
        have TC := Lib.hid (CC.out.belowB BT (by have := HNE.out; omega))
        have TG : Hid (Grew w w7 g) := Lib.hid (GG.out.below_trans (BT.mono (by have := HNE.out; omega)))
        have TS : Hid (b3 + 1 ≤ w7.heap.size) := Lib.hid (by rw [hw7, setCells_size]; exact SS.out)
        clear hw7 BT CC GG XX YY SS
        go_wp2
        go_roundw
        case rel => exact ⟨j + 1, u, s4, by omega, by rw [show (j + 1) * 2 = p + 2 by have := HP.out; omega]; go_num, HF2, HV2, HI2, HK2, T3, T4, TC, TG, TS⟩
        case measure => (have := HP.out; simp [intOf]; try omega)
      · skip
        go_simp
        go_at_call 95
        refine (byte_u v n xs s3 g _ CC.out).mono ?_
        rw [← HB.out, ← HS4.out]
        rintro e V1 ⟨rfl, hc, hg⟩
        have CC := Lib.hid hc
        have GG := Lib.hid (GG.out.trans hg)
        have XX := Lib.hid (XX.out.grewS hg (by have := HNE.out; omega))
        have YY := Lib.hid (YY.out.grewS hg hgl)
        have SS := Lib.hid (Nat.le_trans SS.out hg.size)
        clear hc hg
        try go_wp2_with fail
        try (refine hK _ _ ?_; clear hK K)
        try simp only [Act.put, List.setIfInBounds_toArray, List.set_cons_zero, List.set_cons_succ]
        refine wpAny_take (i := 8) (oi := ⟨some 45, _, _, _, _, _⟩) (v := ?_) rfl (by kernel_rfl) (by kernel_rfl) (by kernel_rfl) (fun _ _ _ h => h) (Or.inl ⟨by rfl, ?_⟩) ?_
        rotate_left
        · (intro w; go_simp; try (with_reducible rfl))
        try simp only [Act.put, List.setIfInBounds_toArray, List.set_cons_zero, List.set_cons_succ]
        refine wpAny_ready (rs := [0, 9]) (by kernel_rfl) (by simp) ?_
        refine AllReady.cons (o := ⟨some 37, _, _, _, _, _⟩) rfl (fun K hK => ?_) (AllReady.cons (o := ⟨some 46, _, _, _, _, _⟩) rfl (fun K hK => ?_) AllReady.nil)
        · skip
          rw [if_pos (by kernel_rfl)]
          refine wp_load_mid 27 _ (by rfl) b3 0 (by rfl) (voC o (.slice none 0 0)) _ (fun j x hj => by rw [Nat.zero_add]; exact (Bx.of_blk XX.out).2 j x hj) Try.underlying27 rfl (by kernel_rfl) ?_
          rw [← vo_voC]
          refine hK _ _ ?_; clear hK K
          try simp only [Act.put, List.setIfInBounds_toArray, List.set_cons_zero, List.set_cons_succ]
          refine wpAny_ready (rs := [9]) (by kernel_rfl) (by simp) ?_
          refine AllReady.cons (o := ⟨some 46, _, _, _, _, _⟩) rfl (fun K hK => ?_) AllReady.nil
          go_simp
          go_at_call 93
          refine (long_s m2 bb _ (by omega) hbb).mono ?_
          rw [← HTT.out]
          rintro e V2 ⟨rfl, hb⟩
          have CC := Lib.hid (CC.out.below hb)
          have GG := Lib.hid (GG.out.trans (Grew.of_below hb))
          have XX := Lib.hid (XX.out.below hb XX.out.lt)
          have YY := Lib.hid (YY.out.below hb YY.out.lt)
          have SS := Lib.hid (Nat.le_trans SS.out hb.size)
          clear hb
          try go_wp2_with fail
          try (refine hK _ _ ?_; clear hK K)
          try simp only [Act.put, List.setIfInBounds_toArray, List.set_cons_zero, List.set_cons_succ]
          refine wpAny_ready (rs := [10]) (by kernel_rfl) (by simp) ?_
          refine AllReady.cons (o := ⟨some 47, _, _, _, _, _⟩) rfl (fun K hK => ?_) AllReady.nil
          go_simp
          go_at_call 89
          refine (put_s o none 0 0 N i TT _ i1 i12).mono ?_
          rw [← HU.out]
          rintro e V3 ⟨rfl, hb⟩
          have CC := Lib.hid (CC.out.below hb)
          have GG := Lib.hid (GG.out.trans (Grew.of_below hb))
          have XX := Lib.hid (XX.out.below hb XX.out.lt)
          have YY := Lib.hid (YY.out.below hb YY.out.lt)
          have SS := Lib.hid (Nat.le_trans SS.out hb.size)
          clear hb
          try go_wp2_with fail
          try (refine hK _ _ ?_; clear hK K)
          try simp only [Act.put, List.setIfInBounds_toArray, List.set_cons_zero, List.set_cons_succ]
          refine wpAny_ready (rs := [11]) (by kernel_rfl) (by simp) ?_
          refine AllReady.cons (o := ⟨none, _, _, _, _, _⟩) rfl (fun K hK => ?_) AllReady.nil
          rw [if_pos (by kernel_rfl)]
          refine wp_store_mid 27 _ _ (by rfl) b3 0 (voC u (.slice none 0 0)).toArray (by rfl) (by rfl) (XX.out.there _ rfl) (by kernel_rfl) (voC_one u _ _ _) ?_
          refine hK _ _ ?_; clear hK K
          try simp only [Act.put, List.setIfInBounds_toArray, List.set_cons_zero, List.set_cons_succ]
          refine wpAny_done (by kernel_rfl) ?_ _
          obtain ⟨w7, hw7⟩ : ∃ w7, w7 = V3.setCells b3 0 (voC u (.slice none 0 0)).toArray.toList := ⟨_, rfl⟩
          rw [← hw7]
          rw [show (voC u (.slice none 0 0)).toArray.toList = voC u (.slice none 0 0) from rfl] at hw7
          have T3 : Hid (Blk w7 b3 27 (voC u (.slice none 0 0))) := Lib.hid (by rw [hw7]; exact XX.out.setCells rfl)
          have T4 : Hid (Blk w7 w.heap.size 27 (voC (OD.new 0 []) (.slice none 0 0))) := Lib.hid (by rw [hw7]; exact YY.out.farS (by have := HNE.out; omega) _ _)
          have BT : Below b3 V3 w7 := by rw [hw7]; exact Below.setCells' (Below.refl _ _) (Nat.le_refl _) _ _
          have TC := Lib.hid (CC.out.belowB BT (by have := HNE.out; omega))
          have TG : Hid (Grew w w7 g) := Lib.hid (GG.out.below_trans (BT.mono (by have := HNE.out; omega)))
          have TS : Hid (b3 + 1 ≤ w7.heap.size) := Lib.hid (by rw [hw7, setCells_size]; exact SS.out)
          clear hw7 BT CC GG XX YY SS
          go_wp2
          go_roundw
          case rel => exact ⟨j + 1, u, s4, by omega, by rw [show (j + 1) * 2 = p + 2 by have := HP.out; omega]; go_num, HF2, HV2, HI2, HK2, T3, T4, TC, TG, TS⟩
          case measure => (have := HP.out; simp [intOf]; try omega)
        · skip
          go_simp
          go_at_call 93
          refine (long_s m2 bb _ (by omega) hbb).mono ?_
          rw [← HTT.out]
          rintro e V2 ⟨rfl, hb⟩
          have CC := Lib.hid (CC.out.below hb)
          have GG := Lib.hid (GG.out.trans (Grew.of_below hb))
          have XX := Lib.hid (XX.out.below hb XX.out.lt)
          have YY := Lib.hid (YY.out.below hb YY.out.lt)
          have SS := Lib.hid (Nat.le_trans SS.out hb.size)
          clear hb
          try go_wp2_with fail
          try (refine hK _ _ ?_; clear hK K)
          try simp only [Act.put, List.setIfInBounds_toArray, List.set_cons_zero, List.set_cons_succ]
          refine wpAny_ready (rs := [0]) (by kernel_rfl) (by simp) ?_
          refine AllReady.cons (o := ⟨some 37, _, _, _, _, _⟩) rfl (fun K hK => ?_) AllReady.nil
          rw [if_pos (by kernel_rfl)]
          refine wp_load_mid 27 _ (by rfl) b3 0 (by rfl) (voC o (.slice none 0 0)) _ (fun j x hj => by rw [Nat.zero_add]; exact (Bx.of_blk XX.out).2 j x hj) Try.underlying27 rfl (by kernel_rfl) ?_
          rw [← vo_voC]
          refine hK _ _ ?_; clear hK K
          try simp only [Act.put, List.setIfInBounds_toArray, List.set_cons_zero, List.set_cons_succ]
          refine wpAny_ready (rs := [10]) (by kernel_rfl) (by simp) ?_
          refine AllReady.cons (o := ⟨some 47, _, _, _, _, _⟩) rfl (fun K hK => ?_) AllReady.nil
          go_simp
          go_at_call 89
          refine (put_s o none 0 0 N i TT _ i1 i12).mono ?_
          rw [← HU.out]
          rintro e V3 ⟨rfl, hb⟩
          have CC := Lib.hid (CC.out.below hb)
          have GG := Lib.hid (GG.out.trans (Grew.of_below hb))
          have XX := Lib.hid (XX.out.below hb XX.out.lt)
          have YY := Lib.hid (YY.out.below hb YY.out.lt)
          have SS := Lib.hid (Nat.le_trans SS.out hb.size)
          clear hb
          try go_wp2_with fail
          try (refine hK _ _ ?_; clear hK K)
          try simp only [Act.put, List.setIfInBounds_toArray, List.set_cons_zero, List.set_cons_succ]
          refine wpAny_ready (rs := [11]) (by kernel_rfl) (by simp) ?_
          refine AllReady.cons (o := ⟨none, _, _, _, _, _⟩) rfl (fun K hK => ?_) AllReady.nil
          rw [if_pos (by kernel_rfl)]
          refine wp_store_mid 27 _ _ (by rfl) b3 0 (voC u (.slice none 0 0)).toArray (by rfl) (by rfl) (XX.out.there _ rfl) (by kernel_rfl) (voC_one u _ _ _) ?_
          refine hK _ _ ?_; clear hK K
          try simp only [Act.put, List.setIfInBounds_toArray, List.set_cons_zero, List.set_cons_succ]
          refine wpAny_done (by kernel_rfl) ?_ _
          obtain ⟨w7, hw7⟩ : ∃ w7, w7 = V3.setCells b3 0 (voC u (.slice none 0 0)).toArray.toList := ⟨_, rfl⟩
          rw [← hw7]
          rw [show (voC u (.slice none 0 0)).toArray.toList = voC u (.slice none 0 0) from rfl] at hw7
          have T3 : Hid (Blk w7 b3 27 (voC u (.slice none 0 0))) := Lib.hid (by rw [hw7]; exact XX.out.setCells rfl)
          have T4 : Hid (Blk w7 w.heap.size 27 (voC (OD.new 0 []) (.slice none 0 0))) := Lib.hid (by rw [hw7]; exact YY.out.farS (by have := HNE.out; omega) _ _)
          have BT : Below b3 V3 w7 := by rw [hw7]; exact Below.setCells' (Below.refl _ _) (Nat.le_refl _) _ _
          have TC := Lib.hid (CC.out.belowB BT (by have := HNE.out; omega))
          have TG : Hid (Grew w w7 g) := Lib.hid (GG.out.below_trans (BT.mono (by have := HNE.out; omega)))
          have TS : Hid (b3 + 1 ≤ w7.heap.size) := Lib.hid (by rw [hw7, setCells_size]; exact SS.out)
          clear hw7 BT CC GG XX YY SS
          go_wp2
          go_roundw
          case rel => exact ⟨j + 1, u, s4, by omega, by rw [show (j + 1) * 2 = p + 2 by have := HP.out; omega]; go_num, HF2, HV2, HI2, HK2, T3, T4, TC, TG, TS⟩
          case measure => (have := HP.out; simp [intOf]; try omega)
    · have q2 : (((ltr i).toNat : Int) == 102) = false := by
        rcases (show i = 1 ∨ i = 2 ∨ i = 3 ∨ i = 4 ∨ i = 5 ∨ i = 6 ∨ i = 7 ∨ i = 8 ∨ i = 9 ∨ i = 11 ∨ i = 12 by omega) with rfl | rfl | rfl | rfl | rfl | rfl | rfl | rfl | rfl | rfl | rfl <;> rfl
      obtain ⟨N, hN⟩ : ∃ N, N = N0 := ⟨_, rfl⟩
      have hNl : N < 200 := by omega
      obtain ⟨s3, hs3⟩ : ∃ s, s = sa := ⟨_, rfl⟩
      obtain ⟨bb, hbq⟩ : ∃ b, b = byteX xs s3 := ⟨_, rfl⟩
      obtain ⟨s4, hs4⟩ : ∃ s, s = byteN xs s3 := ⟨_, rfl⟩
      obtain ⟨TT, hTT⟩ : ∃ T, T = str (longL m2 bb) := ⟨_, rfl⟩
      obtain ⟨u, hu⟩ : ∃ u, u = o.put i (N : Int) (N != 0) TT := ⟨_, rfl⟩
      have HF2 : Hid (fldAll xs (lay (K : Int)) (OD.new (K : Int) [], s1) = fldAll xs ((lay (K : Int)).drop (j + 1)) (u, s4)) := Lib.hid (by
        rw [HF.out, HDR.out]
        show fldAll xs _ (fldStep xs (i, m2) o s2) = _
        unfold fldStep
        rw [if_neg hi10, ← HSA.out, ← HN0.out, ← hN, ← hs3, ← hbq, ← hs4, ← hTT, ← hu])
      have HB := Lib.hid hbq
      have HS4 := Lib.hid hs4
      have HTT := Lib.hid hTT
      have HU := Lib.hid hu
      have HV2 : Hid u.wf := Lib.hid (by rw [hu]; exact wf_put HV.out i (i64R_nat (by omega)) (by rw [hTT, str_size]; unfold longL maxLen; rw [List.length_replicate]; omega))
      have HI2 : Hid (u.ids = []) := Lib.hid (by rw [hu, put_ids]; exact HI.out)
      have HK2 : Hid (u.k = (K : Int)) := Lib.hid (by rw [hu, put_k]; exact HOK.out)
      rw [← hs3] at C5
      rw [← hN]
      clear hN hs3 hbq hs4 hTT hu hi10
      have C4 := C5
      have G4 := G5
      have X4 := X5
      have Y4 := Y5
      have S4 := S5
      clear C5 G5 X5 Y5 S5
      have CC := Lib.hid (C4.out.below (Below.refl _ _).drew)
      have GG := Lib.hid G4.out.drew
      have XX := Lib.hid X4.out.drew
      have YY := Lib.hid Y4.out.drew
      have SS := S4
      clear C4 G4 X4 Y4 S4
      have hbb : bb < 256 := by rw [HB.out]; exact byteX_lt _ _
      have wx8 : IntKind.u8.wrap (bb : Int) = (bb : Int) := by rw [IntKind.wrap_u8]; omega
      go_wp2_with fail
      refine wp_region_any (by kernel_rfl) ?_
      try (change wpAny _ _ _ _ _ _ _ (World.drew _))
      refine wpAny_take (i := 1) (oi := ⟨some 38, _, _, _, _, _⟩) (v := ?_) rfl (by kernel_rfl) (by kernel_rfl) (by kernel_rfl) (fun _ _ _ h => h) (Or.inl ⟨by rfl, ?_⟩) ?_
      rotate_left
      · (intro w; go_simp; try (with_reducible rfl))
      try simp only [Act.put, List.setIfInBounds_toArray, List.set_cons_zero, List.set_cons_succ]
      refine wpAny_take (i := 2) (oi := ⟨some 39, _, _, _, _, _⟩) (v := ?_) rfl (by kernel_rfl) (by kernel_rfl) (by kernel_rfl) (fun _ _ _ h => h) (Or.inl ⟨by rfl, ?_⟩) ?_
      rotate_left
      · (intro w; go_simp; try (with_reducible rfl))
      try simp only [Act.put, List.setIfInBounds_toArray, List.set_cons_zero, List.set_cons_succ]
      refine wpAny_take (i := 3) (oi := ⟨some 40, _, _, _, _, _⟩) (v := ?_) rfl (by kernel_rfl) (by kernel_rfl) (by kernel_rfl) (fun _ _ _ h => h) (Or.inl ⟨by rfl, ?_⟩) ?_
      rotate_left
      · (intro w; go_simp; try (with_reducible rfl))
      try simp only [Act.put, List.setIfInBounds_toArray, List.set_cons_zero, List.set_cons_succ]
      refine wpAny_take (i := 4) (oi := ⟨some 41, _, _, _, _, _⟩) (v := ?_) rfl (by kernel_rfl) (by kernel_rfl) (by kernel_rfl) (fun _ _ _ h => h) (Or.inl ⟨by rfl, ?_⟩) ?_
      rotate_left
      · (intro w; go_simp; try (with_reducible rfl))
      try simp only [Act.put, List.setIfInBounds_toArray, List.set_cons_zero, List.set_cons_succ]
      refine wpAny_take (i := 5) (oi := ⟨some 42, _, _, _, _, _⟩) (v := ?_) rfl (by kernel_rfl) (by kernel_rfl) (by kernel_rfl) (fun _ _ _ h => h) (Or.inl ⟨by rfl, ?_⟩) ?_
      rotate_left
      · (intro w; go_simp; try (with_reducible rfl))
      try simp only [Act.put, List.setIfInBounds_toArray, List.set_cons_zero, List.set_cons_succ]
      refine wpAny_take (i := 6) (oi := ⟨some 43, _, _, _, _, _⟩) (v := ?_) rfl (by kernel_rfl) (by kernel_rfl) (by kernel_rfl) (fun _ _ _ h => h) (Or.inl ⟨by rfl, ?_⟩) ?_
      rotate_left
      · (intro w; go_simp; try (with_reducible rfl))
      try simp only [Act.put, List.setIfInBounds_toArray, List.set_cons_zero, List.set_cons_succ]
      refine wpAny_ready (rs := [0, 7]) (by kernel_rfl) (by simp) ?_
      refine AllReady.cons (o := ⟨some 37, _, _, _, _, _⟩) rfl (fun K hK => ?_) (AllReady.cons (o := ⟨some 44, _, _, _, _, _⟩) rfl (fun K hK => ?_) AllReady.nil)
      · skip
        rw [if_pos (by kernel_rfl)]
        refine wp_load_mid 27 _ (by rfl) b3 0 (by rfl) (voC o (.slice none 0 0)) _ (fun j x hj => by rw [Nat.zero_add]; exact (Bx.of_blk XX.out).2 j x hj) Try.underlying27 rfl (by kernel_rfl) ?_
        rw [← vo_voC]
        refine hK _ _ ?_; clear hK K
        try simp only [Act.put, List.setIfInBounds_toArray, List.set_cons_zero, List.set_cons_succ]
        refine wpAny_ready (rs := [7]) (by kernel_rfl) (by simp) ?_
        refine AllReady.cons (o := ⟨some 44, _, _, _, _, _⟩) rfl (fun K hK => ?_) AllReady.nil
        go_simp
        go_at_call 95
        refine (byte_u v n xs s3 g _ CC.out).mono ?_
        rw [← HB.out, ← HS4.out]
        rintro e V1 ⟨rfl, hc, hg⟩
        have CC := Lib.hid hc
        have GG := Lib.hid (GG.out.trans hg)
        have XX := Lib.hid (XX.out.grewS hg (by have := HNE.out; omega))
        have YY := Lib.hid (YY.out.grewS hg hgl)
        have SS := Lib.hid (Nat.le_trans SS.out hg.size)
        clear hc hg
        try go_wp2_with fail
        try (refine hK _ _ ?_; clear hK K)
        try simp only [Act.put, List.setIfInBounds_toArray, List.set_cons_zero, List.set_cons_succ]
        refine wpAny_take (i := 8) (oi := ⟨some 45, _, _, _, _, _⟩) (v := ?_) rfl (by kernel_rfl) (by kernel_rfl) (by kernel_rfl) (fun _ _ _ h => h) (Or.inl ⟨by rfl, ?_⟩) ?_
        rotate_left
        · (intro w; go_simp; try (with_reducible rfl))
        try simp only [Act.put, List.setIfInBounds_toArray, List.set_cons_zero, List.set_cons_succ]
        refine wpAny_ready (rs := [9]) (by kernel_rfl) (by simp) ?_
        refine AllReady.cons (o := ⟨some 46, _, _, _, _, _⟩) rfl (fun K hK => ?_) AllReady.nil
        go_simp
        go_at_call 93
        refine (long_s m2 bb _ (by omega) hbb).mono ?_
        rw [← HTT.out]
        rintro e V2 ⟨rfl, hb⟩
        have CC := Lib.hid (CC.out.below hb)
        have GG := Lib.hid (GG.out.trans (Grew.of_below hb))
        have XX := Lib.hid (XX.out.below hb XX.out.lt)
        have YY := Lib.hid (YY.out.below hb YY.out.lt)
        have SS := Lib.hid (Nat.le_trans SS.out hb.size)
        clear hb
        try go_wp2_with fail
        try (refine hK _ _ ?_; clear hK K)
        try simp only [Act.put, List.setIfInBounds_toArray, List.set_cons_zero, List.set_cons_succ]
        refine wpAny_ready (rs := [10]) (by kernel_rfl) (by simp) ?_
        refine AllReady.cons (o := ⟨some 47, _, _, _, _, _⟩) rfl (fun K hK => ?_) AllReady.nil
        go_simp
        go_at_call 89
        refine (put_s o none 0 0 N i TT _ i1 i12).mono ?_
        rw [← HU.out]
        rintro e V3 ⟨rfl, hb⟩
        have CC := Lib.hid (CC.out.below hb)
        have GG := Lib.hid (GG.out.trans (Grew.of_below hb))
        have XX := Lib.hid (XX.out.below hb XX.out.lt)
        have YY := Lib.hid (YY.out.below hb YY.out.lt)
        have SS := Lib.hid (Nat.le_trans SS.out hb.size)
        clear hb
        try go_wp2_with fail
        try (refine hK _ _ ?_; clear hK K)
        try simp only [Act.put, List.setIfInBounds_toArray, List.set_cons_zero, List.set_cons_succ]
        refine wpAny_ready (rs := [11]) (by kernel_rfl) (by simp) ?_
        refine AllReady.cons (o := ⟨none, _, _, _, _, _⟩) rfl (fun K hK => ?_) AllReady.nil
        rw [if_pos (by kernel_rfl)]
        refine wp_store_mid 27 _ _ (by rfl) b3 0 (voC u (.slice none 0 0)).toArray (by rfl) (by rfl) (XX.out.there _ rfl) (by kernel_rfl) (voC_one u _ _ _) ?_
        refine hK _ _ ?_; clear hK K
        try simp only [Act.put, List.setIfInBounds_toArray, List.set_cons_zero, List.set_cons_succ]
        refine wpAny_done (by kernel_rfl) ?_ _
        obtain ⟨w7, hw7⟩ : ∃ w7, w7 = V3.setCells b3 0 (voC u (.slice none 0 0)).toArray.toList := ⟨_, rfl⟩
        rw [← hw7]
        rw [show (voC u (.slice none 0 0)).toArray.toList = voC u (.slice none 0 0) from rfl] at hw7
        have T3 : Hid (Blk w7 b3 27 (voC u (.slice none 0 0))) := Lib.hid (by rw [hw7]; exact XX.out.setCells rfl)
        have T4 : Hid (Blk w7 w.heap.size 27 (voC (OD.new 0 []) (.slice none 0 0))) := Lib.hid (by rw [hw7]; exact YY.out.farS (by have := HNE.out; omega) _ _)
        have BT : Below b3 V3 w7 := by rw [hw7]; exact Below.setCells' (Below.refl _ _) (Nat.le_refl _) _ _
        have TC := Lib.hid (CC.out.belowB BT (by have := HNE.out; omega))
        have TG : Hid (Grew w w7 g) := Lib.hid (GG.out.below_trans (BT.mono (by have := HNE.out; omega)))
        have TS : Hid (b3 + 1 ≤ w7.heap.size) := Lib.hid (by rw [hw7, setCells_size]; exact SS.out)
        clear hw7 BT CC GG XX YY SS
        go_wp2
        go_roundw
        case rel => exact ⟨j + 1, u, s4, by omega, by rw [show (j + 1) * 2 = p + 2 by have := HP.out; omega]; go_num, HF2, HV2, HI2, HK2, T3, T4, TC, TG, TS⟩
        case measure => (have := HP.out; simp [intOf]; try omega)
      · skip
        go_simp
        go_at_call 95
        refine (byte_u v n xs s3 g _ CC.out).mono ?_
        rw [← HB.out, ← HS4.out]
        rintro e V1 ⟨rfl, hc, hg⟩
        have CC := Lib.hid hc
        have GG := Lib.hid (GG.out.trans hg)
        have XX := Lib.hid (XX.out.grewS hg (by have := HNE.out; omega))
        have YY := Lib.hid (YY.out.grewS hg hgl)
        have SS := Lib.hid (Nat.le_trans SS.out hg.size)
        clear hc hg
        try go_wp2_with fail
        try (refine hK _ _ ?_; clear hK K)
        try simp only [Act.put, List.setIfInBounds_toArray, List.set_cons_zero, List.set_cons_succ]
        refine wpAny_take (i := 8) (oi := ⟨some 45, _, _, _, _, _⟩) (v := ?_) rfl (by kernel_rfl) (by kernel_rfl) (by kernel_rfl) (fun _ _ _ h => h) (Or.inl ⟨by rfl, ?_⟩) ?_
        rotate_left
        · (intro w; go_simp; try (with_reducible rfl))
        try simp only [Act.put, List.setIfInBounds_toArray, List.set_cons_zero, List.set_cons_succ]
        refine wpAny_ready (rs := [0, 9]) (by kernel_rfl) (by simp) ?_
        refine AllReady.cons (o := ⟨some 37, _, _, _, _, _⟩) rfl (fun K hK => ?_) (AllReady.cons (o := ⟨some 46, _, _, _, _, _⟩) rfl (fun K hK => ?_) AllReady.nil)
        · skip
          rw [if_pos (by kernel_rfl)]
          refine wp_load_mid 27 _ (by rfl) b3 0 (by rfl) (voC o (.slice none 0 0)) _ (fun j x hj => by rw [Nat.zero_add]; exact (Bx.of_blk XX.out).2 j x hj) Try.underlying27 rfl (by kernel_rfl) ?_
          rw [← vo_voC]
          refine hK _ _ ?_; clear hK K
          try simp only [Act.put, List.setIfInBounds_toArray, List.set_cons_zero, List.set_cons_succ]
          refine wpAny_ready (rs := [9]) (by kernel_rfl) (by simp) ?_
          refine AllReady.cons (o := ⟨some 46, _, _, _, _, _⟩) rfl (fun K hK => ?_) AllReady.nil
          go_simp
          go_at_call 93
          refine (long_s m2 bb _ (by omega) hbb).mono ?_
          rw [← HTT.out]
          rintro e V2 ⟨rfl, hb⟩
          have CC := Lib.hid (CC.out.below hb)
          have GG := Lib.hid (GG.out.trans (Grew.of_below hb))
          have XX := Lib.hid (XX.out.below hb XX.out.lt)
          have YY := Lib.hid (YY.out.below hb YY.out.lt)
          have SS := Lib.hid (Nat.le_trans SS.out hb.size)
          clear hb
          try go_wp2_with fail
          try (refine hK _ _ ?_; clear hK K)
          try simp only [Act.put, List.setIfInBounds_toArray, List.set_cons_zero, List.set_cons_succ]
          refine wpAny_ready (rs := [10]) (by kernel_rfl) (by simp) ?_
          refine AllReady.cons (o := ⟨some 47, _, _, _, _, _⟩) rfl (fun K hK => ?_) AllReady.nil
          go_simp
          go_at_call 89
          refine (put_s o none 0 0 N i TT _ i1 i12).mono ?_
          rw [← HU.out]
          rintro e V3 ⟨rfl, hb⟩
          have CC := Lib.hid (CC.out.below hb)
          have GG := Lib.hid (GG.out.trans (Grew.of_below hb))
          have XX := Lib.hid (XX.out.below hb XX.out.lt)
          have YY := Lib.hid (YY.out.below hb YY.out.lt)
          have SS := Lib.hid (Nat.le_trans SS.out hb.size)
          clear hb
          try go_wp2_with fail
          try (refine hK _ _ ?_; clear hK K)
          try simp only [Act.put, List.setIfInBounds_toArray, List.set_cons_zero, List.set_cons_succ]
          refine wpAny_ready (rs := [11]) (by kernel_rfl) (by simp) ?_
          refine AllReady.cons (o := ⟨none, _, _, _, _, _⟩) rfl (fun K hK => ?_) AllReady.nil
          rw [if_pos (by kernel_rfl)]
          refine wp_store_mid 27 _ _ (by rfl) b3 0 (voC u (.slice none 0 0)).toArray (by rfl) (by rfl) (XX.out.there _ rfl) (by kernel_rfl) (voC_one u _ _ _) ?_
          refine hK _ _ ?_; clear hK K
          try simp only [Act.put, List.setIfInBounds_toArray, List.set_cons_zero, List.set_cons_succ]
          refine wpAny_done (by kernel_rfl) ?_ _
          obtain ⟨w7, hw7⟩ : ∃ w7, w7 = V3.setCells b3 0 (voC u (.slice none 0 0)).toArray.toList := ⟨_, rfl⟩
          rw [← hw7]
          rw [show (voC u (.slice none 0 0)).toArray.toList = voC u (.slice none 0 0) from rfl] at hw7
          have T3 : Hid (Blk w7 b3 27 (voC u (.slice none 0 0))) := Lib.hid (by rw [hw7]; exact XX.out.setCells rfl)
          have T4 : Hid (Blk w7 w.heap.size 27 (voC (OD.new 0 []) (.slice none 0 0))) := Lib.hid (by rw [hw7]; exact YY.out.farS (by have := HNE.out; omega) _ _)
          have BT : Below b3 V3 w7 := by rw [hw7]; exact Below.setCells' (Below.refl _ _) (Nat.le_refl _) _ _
          have TC := Lib.hid (CC.out.belowB BT (by have := HNE.out; omega))
          have TG : Hid (Grew w w7 g) := Lib.hid (GG.out.below_trans (BT.mono (by have := HNE.out; omega)))
          have TS : Hid (b3 + 1 ≤ w7.heap.size) := Lib.hid (by rw [hw7, setCells_size]; exact SS.out)
          clear hw7 BT CC GG XX YY SS
          go_wp2
          go_roundw
          case rel => exact ⟨j + 1, u, s4, by omega, by rw [show (j + 1) * 2 = p + 2 by have := HP.out; omega]; go_num, HF2, HV2, HI2, HK2, T3, T4, TC, TG, TS⟩
          case measure => (have := HP.out; simp [intOf]; try omega)
        · skip
          go_simp
          go_at_call 93
          refine (long_s m2 bb _ (by omega) hbb).mono ?_
          rw [← HTT.out]
          rintro e V2 ⟨rfl, hb⟩
          have CC := Lib.hid (CC.out.below hb)
          have GG := Lib.hid (GG.out.trans (Grew.of_below hb))
          have XX := Lib.hid (XX.out.below hb XX.out.lt)
          have YY := Lib.hid (YY.out.below hb YY.out.lt)
          have SS := Lib.hid (Nat.le_trans SS.out hb.size)
          clear hb
          try go_wp2_with fail
          try (refine hK _ _ ?_; clear hK K)
          try simp only [Act.put, List.setIfInBounds_toArray, List.set_cons_zero, List.set_cons_succ]
          refine wpAny_ready (rs := [0]) (by kernel_rfl) (by simp) ?_
          refine AllReady.cons (o := ⟨some 37, _, _, _, _, _⟩) rfl (fun K hK => ?_) AllReady.nil
          rw [if_pos (by kernel_rfl)]
          refine wp_load_mid 27 _ (by rfl) b3 0 (by rfl) (voC o (.slice none 0 0)) _ (fun j x hj => by rw [Nat.zero_add]; exact (Bx.of_blk XX.out).2 j x hj) Try.underlying27 rfl (by kernel_rfl) ?_
          rw [← vo_voC]
          refine hK _ _ ?_; clear hK K
          try simp only [Act.put, List.setIfInBounds_toArray, List.set_cons_zero, List.set_cons_succ]
          refine wpAny_ready (rs := [10]) (by kernel_rfl) (by simp) ?_
          refine AllReady.cons (o := ⟨some 47, _, _, _, _, _⟩) rfl (fun K hK => ?_) AllReady.nil
          go_simp
          go_at_call 89
          refine (put_s o none 0 0 N i TT _ i1 i12).mono ?_
          rw [← HU.out]
          rintro e V3 ⟨rfl, hb⟩
          have CC := Lib.hid (CC.out.below hb)
          have GG := Lib.hid (GG.out.trans (Grew.of_below hb))
          have XX := Lib.hid (XX.out.below hb XX.out.lt)
          have YY := Lib.hid (YY.out.below hb YY.out.lt)
          have SS := Lib.hid (Nat.le_trans SS.out hb.size)
          clear hb
          try go_wp2_with fail
          try (refine hK _ _ ?_; clear hK K)
          try simp only [Act.put, List.setIfInBounds_toArray, List.set_cons_zero, List.set_cons_succ]
          refine wpAny_ready (rs := [11]) (by kernel_rfl) (by simp) ?_
          refine AllReady.cons (o := ⟨none, _, _, _, _, _⟩) rfl (fun K hK => ?_) AllReady.nil
          rw [if_pos (by kernel_rfl)]
          refine wp_store_mid 27 _ _ (by rfl) b3 0 (voC u (.slice none 0 0)).toArray (by rfl) (by rfl) (XX.out.there _ rfl) (by kernel_rfl) (voC_one u _ _ _) ?_
          refine hK _ _ ?_; clear hK K
          try simp only [Act.put, List.setIfInBounds_toArray, List.set_cons_zero, List.set_cons_succ]
          refine wpAny_done (by kernel_rfl) ?_ _
          obtain ⟨w7, hw7⟩ : ∃ w7, w7 = V3.setCells b3 0 (voC u (.slice none 0 0)).toArray.toList := ⟨_, rfl⟩
          rw [← hw7]
          rw [show (voC u (.slice none 0 0)).toArray.toList = voC u (.slice none 0 0) from rfl] at hw7
          have T3 : Hid (Blk w7 b3 27 (voC u (.slice none 0 0))) := Lib.hid (by rw [hw7]; exact XX.out.setCells rfl)
          have T4 : Hid (Blk w7 w.heap.size 27 (voC (OD.new 0 []) (.slice none 0 0))) := Lib.hid (by rw [hw7]; exact YY.out.farS (by have := HNE.out; omega) _ _)
          have BT : Below b3 V3 w7 := by rw [hw7]; exact Below.setCells' (Below.refl _ _) (Nat.le_refl _) _ _
          have TC := Lib.hid (CC.out.belowB BT (by have := HNE.out; omega))
          have TG : Hid (Grew w w7 g) := Lib.hid (GG.out.below_trans (BT.mono (by have := HNE.out; omega)))
          have TS : Hid (b3 + 1 ≤ w7.heap.size) := Lib.hid (by rw [hw7, setCells_size]; exact SS.out)
          clear hw7 BT CC GG XX YY SS
          go_wp2
          go_roundw
          case rel => exact ⟨j + 1, u, s4, by omega, by rw [show (j + 1) * 2 = p + 2 by have := HP.out; omega]; go_num, HF2, HV2, HI2, HK2, T3, T4, TC, TG, TS⟩
          case measure => (have := HP.out; simp [intOf]; try omega)
end Go.Proofs.Ytkgbkgonlopciaa

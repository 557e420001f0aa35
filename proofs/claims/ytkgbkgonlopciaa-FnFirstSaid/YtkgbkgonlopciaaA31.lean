/- The walks of FirstOpt. -/
import Derived.Test.YtkgbkgonlopciaaA26
import Derived.Test.YtkgbkgonlopciaaA15
import Derived.Test.YtkgbkgonlopciaaK10
import Derived.Test.YtkgbkgonlopciaaA12
import Derived.Test.YtkgbkgonlopciaaM7
import Derived.Deep.Cut
import Derived.Outline
import Derived.Deep.QuietTactic
import Derived.BigQuiet
import Derived.Deep.RegionHeld
namespace Go.Proofs.Ytkgbkgonlopciaa
open Go.RowKit
set_option linter.unusedVariables false
set_option linter.unusedSimpArgs false
theorem Blk.bx {w : World} {b : Nat} {t : TypeId} {cs : List Value} (h : Blk w b t cs) : Bx w b cs := Bx.of_blk h
/-- the first option of a kind -/
def firstO (os : List OD) (k : Int) : Option OD := os.find? (fun o => o.k == k)
theorem firstO_at {os : List OD} {j : Nat} {o : OD} {k : Int} (ho : os[j]? = some o) (hk : o.k = k) (h : ∀ i q, i < j → os[i]? = some q → q.k ≠ k) : firstO os k = some o := by
  unfold firstO
  obtain ⟨hj, rfl⟩ := List.getElem?_eq_some_iff.1 ho
  rw [List.find?_eq_some_iff_getElem]
  refine ⟨by simpa using hk, j, hj, rfl, fun i hi => ?_⟩
  have := h i _ hi (List.getElem?_eq_getElem (by omega))
  simpa using this
theorem firstO_no {os : List OD} {k : Int} (h : ∀ i q, i < os.length → os[i]? = some q → q.k ≠ k) : firstO os k = none := by
  unfold firstO
  rw [List.find?_eq_none]
  intro o ho
  obtain ⟨i, hi, rfl⟩ := List.getElem_of_mem ho
  have := h i _ hi (List.getElem?_eq_getElem hi)
  simpa using this
/-- the first option is handed back, its numbers in memory of their own -/
def GivesFirst (r : Option OD) (w : World) (e : Ending) (w' : World) : Prop := ∃ iv, e = .returned (.tuple #[vo (r.getD (OD.new 0 [])) iv, .bool r.isSome]) ∧ Obs w' w.heap.size 1 iv (r.getD (OD.new 0 [])).ids.length ((r.getD (OD.new 0 [])).ids.map vn) ∧ Below w.heap.size w w'
set_option maxRecDepth 100000 in
set_option maxHeartbeats 1600000 in
theorem copyOpt_i (o : OD) (A : Option Addr) (n cp : Nat) (w : World) (h : Rd w 1 (.slice A n cp) n (o.ids.map vn)) (hn : n ≤ 4294967296) :
    Calls Try.prog 62 #[vo o (.slice A n cp)] w (GivesOpt o w) := by
  have HNX := Lib.hid (rd_ids h)
  have H := Lib.hid h
  clear h
  go_enter Try.func62, Try.ntmps62
  go_upto_region 1 with (fail)
  obtain ⟨W, hW⟩ : ∃ W, W = (w.alloc (.cells (voC o (.slice A n cp)).toArray 27)).alloc (.cells (voC (OD.new 0 []) (.slice none 0 0)).toArray 27) := ⟨_, rfl⟩
  change Code.wp _ _ _ _ ((w.alloc (.cells (voC o (.slice A n cp)).toArray 27)).alloc (.cells (voC (OD.new 0 []) (.slice none 0 0)).toArray 27))
  rw [← hW]
  have L0 := Lib.hid (((Below.refl w.heap.size w).alloc (Nat.le_refl _) (.cells (voC o (.slice A n cp)).toArray 27)).alloc (by simp) (.cells (voC (OD.new 0 []) (.slice none 0 0)).toArray 27))
  have X1 := Lib.hid ((Blk.new w 27 (voC o (.slice A n cp)).toArray).alloc (.cells (voC (OD.new 0 []) (.slice none 0 0)).toArray 27))
  have X2 := Lib.hid (Blk.new (w.alloc (.cells (voC o (.slice A n cp)).toArray 27)) 27 (voC (OD.new 0 []) (.slice none 0 0)).toArray)
  have hws : W.heap.size = w.heap.size + 2 := by rw [hW]; simp
  rw [← hW] at L0 X1 X2
  simp only [World.size_alloc] at X2
  clear hW
  have x13 : W.cell? ⟨w.heap.size, 13, none⟩ = some (.slice A n cp) := X1.out.cell 13
  go_wp2_with fail
  refine (copyInts_i _ n _ _ (H.out.below L0.out) hn).mono ?_
  rintro e w2 ⟨iv, rfl, ho, hb⟩
  rw [hws] at ho
  obtain ⟨A2, c2, rfl⟩ := ho.shape
  have O2 := Lib.hid ho
  have Y1 := Lib.hid (X1.out.below hb X1.out.lt)
  have Y2 := Lib.hid (X2.out.below hb X2.out.lt)
  have L2 := Lib.hid (L0.out.trans (hb.mono L0.out.size))
  clear ho hb x13 L0
  have y13 : w2.cell? ⟨w.heap.size, 13, none⟩ = some (.slice A n cp) := Y1.out.cell 13
  have f13 := Y1.out.frozen 13
  go_upto_region 2 with (fail)
  obtain ⟨W3, hW3⟩ : ∃ W, W = w2.setCell ⟨w.heap.size, 13, none⟩ (.slice A2 n c2) := ⟨_, rfl⟩
  rw [← hW3]
  have Z1 : Hid (Blk W3 w.heap.size 27 (voC o (.slice A2 n c2))) := Lib.hid (by rw [hW3]; exact Y1.out.set_ 13 _)
  have Z2 : Hid (Blk W3 (w.heap.size + 1) 27 (voC (OD.new 0 []) (.slice none 0 0))) := Lib.hid (by rw [hW3]; exact Y2.out.far (by dsimp only; omega) _)
  have O3 : Hid (Obs W3 (w.heap.size + 2) 1 (.slice A2 n c2) n (o.ids.map vn)) := Lib.hid (by rw [hW3]; exact O2.out.far (by dsimp only; omega) _)
  have L3 : Hid (Below w.heap.size w W3) := Lib.hid (by rw [hW3]; exact L2.out.setCell (by dsimp only; omega) _)
  clear hW3 y13 f13 O2 L2
  go_wp2_with (first | (refine wpl_opt (o := o) rfl (by rfl) (by rfl) Z1.out.bx ?_) | (refine wpl_store_optM (o := o) rfl (by rfl) (by rfl) (by rfl) Z2.out rfl ?_))
  refine bodyPost_ret (results_opt rfl (by rfl) (Bx.setCells (vs := voC o (.slice A2 n c2)) Z2.out rfl)) rfl ?_
  refine ⟨.slice A2 n c2, rfl, ?_, Below.setCells' L3.out (by omega) _ _⟩
  have h1 := O3.out
  rw [HNX.out] at h1 ⊢
  exact (h1.farS (by omega) _ _).mono (by omega)
set_option maxRecDepth 100000 in
set_option maxHeartbeats 1600000 in
theorem copy_s (o : OD) (A : Option Addr) (n cp : Nat) (w : World) (h : Rd w 1 (.slice A n cp) n (o.ids.map vn)) (hn : n ≤ 4294967296) :
    Calls Try.prog 63 #[vo o (.slice A n cp)] w (GivesOpt o w) := by
  have HNX := Lib.hid (rd_ids h)
  have H := Lib.hid h
  clear h
  obtain ⟨i0, hi, hz0, hz1, hz2⟩ := info_parts i64_info
  go_enter Try.func63, Try.ntmps63
  go_upto_region 1 with (fail)
  obtain ⟨W, hW⟩ : ∃ W, W = (w.alloc (.cells (voC o (.slice A n cp)).toArray 27)).alloc (.cells (voC (OD.new 0 []) (.slice none 0 0)).toArray 27) := ⟨_, rfl⟩
  change Code.wp _ _ _ _ ((w.alloc (.cells (voC o (.slice A n cp)).toArray 27)).alloc (.cells (voC (OD.new 0 []) (.slice none 0 0)).toArray 27))
  rw [← hW]
  have L0 := Lib.hid (((Below.refl w.heap.size w).alloc (Nat.le_refl _) (.cells (voC o (.slice A n cp)).toArray 27)).alloc (by simp) (.cells (voC (OD.new 0 []) (.slice none 0 0)).toArray 27))
  have X1 := Lib.hid ((Blk.new w 27 (voC o (.slice A n cp)).toArray).alloc (.cells (voC (OD.new 0 []) (.slice none 0 0)).toArray 27))
  have X2 := Lib.hid (Blk.new (w.alloc (.cells (voC o (.slice A n cp)).toArray 27)) 27 (voC (OD.new 0 []) (.slice none 0 0)).toArray)
  have hws : W.heap.size = w.heap.size + 2 := by rw [hW]; simp
  rw [← hW] at L0 X1 X2
  simp only [World.size_alloc] at X2
  clear hW
  go_upto_region 3 with (fail)
  obtain ⟨W1, hW1⟩ : ∃ W1, W1 = W.alloc (.cells #[] 3) := ⟨_, rfl⟩
  rw [← hW1]
  have O1 : Hid (Obs W1 (w.heap.size + 2) 1 (.slice (some ⟨w.heap.size + 2, 0, none⟩) 0 0) 0 ((o.ids.take 0).map vn)) := Lib.hid (by have h1 := obs_emptyI W 3 1 (w.heap.size + 2) (by omega); rw [hws] at h1; rw [hW1]; exact h1)
  have L1 : Hid (Below w.heap.size w W1) := Lib.hid (by rw [hW1]; exact L0.out.alloc L0.out.size _)
  have Y1 : Hid (Blk W1 w.heap.size 27 (voC o (.slice A n cp))) := Lib.hid (by rw [hW1]; exact X1.out.alloc _)
  have Y2 : Hid (Blk W1 (w.heap.size + 1) 27 (voC (OD.new 0 []) (.slice none 0 0))) := Lib.hid (by rw [hW1]; exact X2.out.alloc _)
  have S1 : Hid (w.heap.size + 2 ≤ W1.heap.size) := Lib.hid (by rw [hW1]; simp; omega)
  clear hW1 L0 X1 X2
  go_loopw [3, 4] (fun v i wr => ∃ (k c : Nat) (A' : Option Addr), k ≤ n ∧ i = .int .i64 (k : Int) ∧ v = .slice A' k c ∧ Hid (Obs wr (w.heap.size + 2) 1 (.slice A' k c) k ((o.ids.take k).map vn)) ∧ Hid (Blk wr w.heap.size 27 (voC o (.slice A n cp))) ∧ Hid (Blk wr (w.heap.size + 1) 27 (voC (OD.new 0 []) (.slice none 0 0))) ∧ Hid (Below w.heap.size w wr) ∧ Hid (w.heap.size + 2 ≤ wr.heap.size)) (fun _ i _ => n - (intOf i).toNat)
  case atStart => exact ⟨0, 0, _, Nat.zero_le _, rfl, rfl, O1, Y1, Y2, L1, S1⟩
  case round =>
    clear O1 Y1 Y2 L1 S1 hws
    obtain ⟨k, c, A', hk, rfl, rfl, OV, Y1, Y2, HN, HS⟩ := hrel
    have x13 : wr.cell? ⟨w.heap.size, 13, none⟩ = some (.slice A n cp) := Y1.out.cell 13
    by_cases hlt : k < n
    · obtain ⟨b1, o1, _, he, _, _, _⟩ := H.out.full (by omega)
      simp only [Value.slice.injEq] at he
      obtain ⟨rfl, _, rfl⟩ := he
      obtain ⟨g1, p1⟩ := (H.out.below HN.out).at1 hlt
      obtain ⟨x, hx⟩ : ∃ x, x = o.ids.getD k 0 := ⟨_, rfl⟩
      rw [← hx] at p1
      have HST : Hid ((o.ids.take (k + 1)).map vn = (o.ids.take k).map vn ++ [vn x]) := Lib.hid (by
        have hkl : k < o.ids.length := by have := HNX.out; omega
        rw [List.take_succ_eq_append_getElem hkl, List.map_append, hx, List.getD_eq_getElem?_getD, List.getElem?_eq_getElem hkl]
        rfl)
      clear hx
      go_wp2_with (at_builtin; refine wpList_append_obs2 _ rfl _ _ 22 rfl (w.heap.size + 2) 3 i0 (.int .i64 0) 1 8 Try.underlying22 hi hz0 hz1 hz2 rfl (by decide) _ k _ rfl (OV.out.alloc _) (w.heap.size + 2) _ 1 _ rfl (obs_one wr 3 (.int .i64 x) (w.heap.size + 2) HS.out) (by intro u hu; obtain rfl := List.mem_singleton.1 hu; rfl) (by unfold maxLen; omega) (by omega) (by have := HS.out; simp; omega) ?_; intro v3 w3 hown3 hb3 hg3)
      have O3 : Hid (Obs w3 (w.heap.size + 2) 1 v3 (k + 1) ((o.ids.take (k + 1)).map vn)) := Lib.hid (by rw [HST.out]; exact hown3)
      have Z1 := Lib.hid ((Y1.out.alloc (.cells #[.int .i64 x] 3)).below hb3 (by omega))
      have Z2 := Lib.hid ((Y2.out.alloc (.cells #[.int .i64 x] 3)).below hb3 (by omega))
      have HN3 := Lib.hid ((HN.out.alloc HN.out.size (.cells #[.int .i64 x] 3)).trans (hb3.mono (by omega)))
      have HS3 : Hid (w.heap.size + 2 ≤ w3.heap.size) := Lib.hid (Nat.le_trans (by have := HS.out; simp; omega) hb3.size)
      clear hown3 hb3 hg3 x13
      obtain ⟨A3, c3, rfl⟩ := O3.out.shape
      go_roundw
      case rel => exact ⟨k + 1, c3, A3, by omega, by go_num, rfl, O3, Z1, Z2, HN3, HS3⟩
      case measure => (simp [intOf]; try omega)
    · obtain rfl : k = n := by omega
      have HE : Hid ((o.ids.take k).map vn = o.ids.map vn) := Lib.hid (by rw [List.take_of_length_le (by have := HNX.out; omega)])
      rw [HE.out] at OV
      have f13 := Y1.out.frozen 13
      go_upto_region 7 with (fail)
      obtain ⟨W3, hW3⟩ : ∃ W, W = wr.setCell ⟨w.heap.size, 13, none⟩ (.slice A' k c) := ⟨_, rfl⟩
      rw [← hW3]
      have Z1 : Hid (Blk W3 w.heap.size 27 (voC o (.slice A' k c))) := Lib.hid (by rw [hW3]; exact Y1.out.set_ 13 _)
      have Z2 : Hid (Blk W3 (w.heap.size + 1) 27 (voC (OD.new 0 []) (.slice none 0 0))) := Lib.hid (by rw [hW3]; exact Y2.out.far (by dsimp only; omega) _)
      have O3 : Hid (Obs W3 (w.heap.size + 2) 1 (.slice A' k c) k (o.ids.map vn)) := Lib.hid (by rw [hW3]; exact OV.out.far (by dsimp only; omega) _)
      have L3 : Hid (Below w.heap.size w W3) := Lib.hid (by rw [hW3]; exact HN.out.setCell (by dsimp only; omega) _)
      clear hW3 x13 f13 OV HN
      go_wp2_with (first | (refine wpl_opt (o := o) rfl (by rfl) (by rfl) Z1.out.bx ?_) | (refine wpl_store_optM (o := o) rfl (by rfl) (by rfl) (by rfl) Z2.out rfl ?_))
      refine bodyPost_ret (results_opt rfl (by rfl) (Bx.setCells (vs := voC o (.slice A' k c)) Z2.out rfl)) rfl ?_
      refine ⟨.slice A' k c, rfl, ?_, Below.setCells' L3.out (by omega) _ _⟩
      have h1 := O3.out
      have h2 := HNX.out
      subst h2
      exact (h1.farS (by omega) _ _).mono (by omega)
set_option maxRecDepth 100000 in
set_option maxHeartbeats 3200000 in
theorem firstOpt_i (x : SD) (A : Option Addr) (n cp : Nat) (ivs : List Value) (kd : Int) (w : World) (h : RdO w (.slice A n cp) n x.ops ivs) (hni : ∀ o ∈ x.ops, o.ids.length ≤ 4294967296) :
    Calls Try.prog 28 #[vx x (.slice A n cp), .int .i64 kd] w (GivesFirst (firstO x.ops kd) w) := by
  obtain ⟨r, hr⟩ : ∃ r, r = firstO x.ops kd := ⟨_, rfl⟩
  rw [← hr]
  have HR := Lib.hid hr
  have H := Lib.hid h
  have HI := Lib.hid hni
  have HL := Lib.hid h.lo
  obtain ⟨_, _, e0, hm⟩ := h.shape
  unfold maxLen at hm
  clear hr h hni e0
  go_enter Try.func28, Try.ntmps28
  go_upto_region 1 with (fail)
  obtain ⟨W, hW⟩ : ∃ W, W = (w.alloc (.cells (vxC x (.slice A n cp)).toArray 37)).alloc (.cells (voC (OD.new 0 []) (.slice none 0 0)).toArray 27) := ⟨_, rfl⟩
  change Code.wp _ _ _ _ ((w.alloc (.cells (vxC x (.slice A n cp)).toArray 37)).alloc (.cells (voC (OD.new 0 []) (.slice none 0 0)).toArray 27))
  rw [← hW]
  have L0 := Lib.hid (((Below.refl w.heap.size w).alloc (Nat.le_refl _) (.cells (vxC x (.slice A n cp)).toArray 37)).alloc (by simp) (.cells (voC (OD.new 0 []) (.slice none 0 0)).toArray 27))
  have X0 := Lib.hid ((Bx.new w (vxC x (.slice A n cp)).toArray 37).alloc (.cells (voC (OD.new 0 []) (.slice none 0 0)).toArray 27))
  have Y0 := Lib.hid (Blk.new (w.alloc (.cells (vxC x (.slice A n cp)).toArray 37)) 27 (voC (OD.new 0 []) (.slice none 0 0)).toArray)
  rw [← hW] at L0 X0 Y0
  simp only [World.size_alloc] at Y0
  clear hW
  have x7 : W.cell? ⟨w.heap.size, 7, none⟩ = some (.slice A n cp) := X0.out.2 7 _ rfl
  go_wp2
  clear x7
  go_loopw [11] (fun i wr => ∃ k : Nat, k ≤ n ∧ i = .int .i64 (k : Int) ∧ Hid (∀ j q, j < k → x.ops[j]? = some q → q.k ≠ kd) ∧ Hid (Bx wr w.heap.size (vxC x (.slice A n cp))) ∧ Hid (Blk wr (w.heap.size + 1) 27 (voC (OD.new 0 []) (.slice none 0 0))) ∧ Hid (Below w.heap.size w wr)) (fun i _ => n - (intOf i).toNat)
  case atStart => exact ⟨0, Nat.zero_le _, rfl, Lib.hid (fun j q hj => absurd hj (Nat.not_lt_zero _)), X0, Y0, L0⟩
  case round =>
    clear X0 Y0 L0
    obtain ⟨k, hk, rfl, HP, XW, YW, HN⟩ := hrel
    have x7 : wr.cell? ⟨w.heap.size, 7, none⟩ = some (.slice A n cp) := XW.out.2 7 _ rfl
    by_cases hlt : k < n
    case neg =>
      obtain rfl : k = n := by omega
      have HNO : Hid (r = none) := Lib.hid (by rw [HR.out]; exact firstO_no (fun i q hi => HP.out i q (by have := HL.out; omega)))
      go_wp2_with (refine wpl_store_optM (o := OD.new 0 []) (A := none) (n := 0) (c := 0) rfl (by rfl) (by rfl) (by rfl) YW.out rfl ?_)
      refine bodyPost_ret (results_opt2 rfl (by rfl) (by rfl) (Bx.setCells (vs := voC (OD.new 0 []) (.slice none 0 0)) YW.out rfl)) rfl ?_
      rw [HNO.out]
      exact ⟨.slice none 0 0, rfl, Obs.nil _ _ _, Below.setCells' HN.out (by omega) _ _⟩
    obtain ⟨b1, o1, c1, e0⟩ := H.out.full (by omega)
    simp only [Value.slice.injEq] at e0
    obtain ⟨rfl, _, rfl⟩ := e0
    obtain ⟨o, iv, ho, hiv, hB, hR⟩ := (H.out.below HN.out).at_ hlt
    have XB := Lib.hid hB
    have XR := Lib.hid hR
    have XO := Lib.hid ho
    obtain ⟨A1, cp1, rfl⟩ := RdO.shape1 hR
    have XI := Lib.hid (HI.out o (od_in ho))
    clear hB hR ho hiv
    go_upto_region 4 with (first | (refine wpl_optA rfl (by rfl) (by rfl) XB.out ?_) | (refine wpl_store_opt rfl (by rfl) (by rfl) (by rfl) ?_))
    obtain ⟨W2, hW2⟩ : ∃ W, W = wr.alloc (.cells (voC o (.slice A1 o.ids.length cp1)).toArray 27) := ⟨_, rfl⟩
    rw [← hW2]
    obtain ⟨b7, hb7⟩ : ∃ b, b = wr.heap.size := ⟨_, rfl⟩
    have BX := Lib.hid (Bx.new wr (voC o (.slice A1 o.ids.length cp1)).toArray 27)
    have B2 := Lib.hid ((Below.refl wr.heap.size wr).alloc (Nat.le_refl _) (.cells (voC o (.slice A1 o.ids.length cp1)).toArray 27))
    rw [← hW2] at BX B2
    rw [← hb7] at BX ⊢
    have XR2 := Lib.hid (XR.out.below B2.out)
    have HN2 := Lib.hid (HN.out.trans (B2.out.mono HN.out.size))
    have XW2 := Lib.hid (XW.out.below B2.out)
    have YW2 := Lib.hid (YW.out.below B2.out YW.out.lt)
    have k0 : W2.cell? ⟨b7, 0, none⟩ = some (.int .i64 o.k) := BX.out.2 0 _ rfl
    clear hW2 hb7 B2 XR HN XW YW x7
    by_cases hkd : o.k = kd
    · have q1 : (o.k == kd) = true := by simp [hkd]
      have HY : Hid (r = some o) := Lib.hid (by rw [HR.out]; exact firstO_at XO.out hkd HP.out)
      clear hkd
      go_wp2_with (refine wpl_opt rfl (by rfl) (by rfl) BX.out ?_)
      refine (copyOpt_i o A1 _ cp1 _ XR2.out XI.out).mono ?_
      rintro e w3 ⟨iv2, rfl, ho2, hb⟩
      obtain ⟨A3, c3, rfl⟩ := ho2.shape
      have O3 := Lib.hid ho2
      have L3 := Lib.hid (HN2.out.trans (hb.mono HN2.out.size))
      have Y3 := Lib.hid (YW2.out.below hb YW2.out.lt)
      have S3 : Hid (w.heap.size + 2 ≤ W2.heap.size) := Lib.hid (by have := YW2.out.lt; omega)
      clear ho2 hb
      go_wp2_with (refine wpl_store_optM (o := o) rfl (by rfl) (by rfl) (by rfl) Y3.out rfl ?_)
      refine bodyPost_ret (results_opt2 rfl (by rfl) (by rfl) (Bx.setCells (vs := voC o (.slice A3 o.ids.length c3)) Y3.out rfl)) rfl ?_
      rw [HY.out]
      refine ⟨.slice A3 o.ids.length c3, rfl, ?_, Below.setCells' L3.out (by omega) _ _⟩
      have h1 := (O3.out.mono S3.out).farS (b := w.heap.size + 1) (by omega) 0 (voC o (.slice A3 o.ids.length c3))
      exact h1.mono (by omega)
    · have q1 : (o.k == kd) = false := by simp [hkd]
      have HP2 : Hid (∀ j q, j < k + 1 → x.ops[j]? = some q → q.k ≠ kd) := Lib.hid (fun j q hj hq => by
        by_cases e : j = k
        · subst e
          rw [XO.out] at hq
          obtain rfl := Option.some.inj hq
          exact hkd
        · exact HP.out j q (by omega) hq)
      clear hkd
      go_wp2
      go_roundw
      case rel => exact ⟨k + 1, by omega, by go_num, HP2, XW2, YW2, HN2⟩
      case measure => (simp [intOf]; try omega)
set_option maxRecDepth 100000 in
set_option maxHeartbeats 3200000 in
theorem firstOpt_s (x : SD) (A : Option Addr) (n cp : Nat) (ivs : List Value) (kd : Int) (w : World) (h : RdO w (.slice A n cp) n x.ops ivs) (hni : ∀ o ∈ x.ops, o.ids.length ≤ 4294967296) :
    Calls Try.prog 29 #[vx x (.slice A n cp), .int .i64 kd] w (GivesFirst (firstO x.ops kd) w) := by
  obtain ⟨r, hr⟩ : ∃ r, r = firstO x.ops kd := ⟨_, rfl⟩
  rw [← hr]
  have HR := Lib.hid hr
  have H := Lib.hid h
  have HI := Lib.hid hni
  have HL := Lib.hid h.lo
  obtain ⟨_, _, e0, hm⟩ := h.shape
  unfold maxLen at hm
  clear hr h hni e0
  go_enter Try.func29, Try.ntmps29
  go_upto_region 1 with (fail)
  obtain ⟨W, hW⟩ : ∃ W, W = (w.alloc (.cells (vxC x (.slice A n cp)).toArray 37)).alloc (.cells (voC (OD.new 0 []) (.slice none 0 0)).toArray 27) := ⟨_, rfl⟩
  change Code.wp _ _ _ _ ((w.alloc (.cells (vxC x (.slice A n cp)).toArray 37)).alloc (.cells (voC (OD.new 0 []) (.slice none 0 0)).toArray 27))
  rw [← hW]
  have L0 := Lib.hid (((Below.refl w.heap.size w).alloc (Nat.le_refl _) (.cells (vxC x (.slice A n cp)).toArray 37)).alloc (by simp) (.cells (voC (OD.new 0 []) (.slice none 0 0)).toArray 27))
  have X0 := Lib.hid ((Bx.new w (vxC x (.slice A n cp)).toArray 37).alloc (.cells (voC (OD.new 0 []) (.slice none 0 0)).toArray 27))
  have Y0 := Lib.hid (Blk.new (w.alloc (.cells (vxC x (.slice A n cp)).toArray 37)) 27 (voC (OD.new 0 []) (.slice none 0 0)).toArray)
  rw [← hW] at L0 X0 Y0
  simp only [World.size_alloc] at Y0
  clear hW
  go_wp2
  go_loopw [6] (fun i wr => ∃ k : Nat, k ≤ n ∧ i = .int .i64 (k : Int) ∧ Hid (∀ j q, j < k → x.ops[j]? = some q → q.k ≠ kd) ∧ Hid (Bx wr w.heap.size (vxC x (.slice A n cp))) ∧ Hid (Blk wr (w.heap.size + 1) 27 (voC (OD.new 0 []) (.slice none 0 0))) ∧ Hid (Below w.heap.size w wr)) (fun i _ => n - (intOf i).toNat)
  case atStart => exact ⟨0, Nat.zero_le _, rfl, Lib.hid (fun j q hj => absurd hj (Nat.not_lt_zero _)), X0, Y0, L0⟩
  case round =>
    clear X0 Y0 L0
    obtain ⟨k, hk, rfl, HP, XW, YW, HN⟩ := hrel
    have x7 : wr.cell? ⟨w.heap.size, 7, none⟩ = some (.slice A n cp) := XW.out.2 7 _ rfl
    by_cases hlt : k < n
    case neg =>
      obtain rfl : k = n := by omega
      have HNO : Hid (r = none) := Lib.hid (by rw [HR.out]; exact firstO_no (fun i q hi => HP.out i q (by have := HL.out; omega)))
      go_wp2_with (refine wpl_store_optM (o := OD.new 0 []) (A := none) (n := 0) (c := 0) rfl (by rfl) (by rfl) (by rfl) YW.out rfl ?_)
      refine bodyPost_ret (results_opt2 rfl (by rfl) (by rfl) (Bx.setCells (vs := voC (OD.new 0 []) (.slice none 0 0)) YW.out rfl)) rfl ?_
      rw [HNO.out]
      exact ⟨.slice none 0 0, rfl, Obs.nil _ _ _, Below.setCells' HN.out (by omega) _ _⟩
    obtain ⟨b1, o1, c1, e0⟩ := H.out.full (by omega)
    simp only [Value.slice.injEq] at e0
    obtain ⟨rfl, _, rfl⟩ := e0
    obtain ⟨o, iv, ho, hiv, hB, hR⟩ := (H.out.below HN.out).at_ hlt
    have XB := Lib.hid hB
    have XR := Lib.hid hR
    have XO := Lib.hid ho
    obtain ⟨A1, cp1, rfl⟩ := RdO.shape1 hR
    have XI := Lib.hid (HI.out o (od_in ho))
    clear hB hR ho hiv
    have XR2 := XR
    have HN2 := HN
    have XW2 := XW
    have YW2 := YW
    have k0 : wr.cell? ⟨b1, o1 + k * 14, none⟩ = some (.int .i64 o.k) := XB.out.2 0 _ rfl
    clear XR HN XW YW
    by_cases hkd : o.k = kd
    · have q1 : (o.k == kd) = true := by simp [hkd]
      have HY : Hid (r = some o) := Lib.hid (by rw [HR.out]; exact firstO_at XO.out hkd HP.out)
      clear hkd
      go_wp2_with (refine wpl_optA rfl (by rfl) (by rfl) XB.out ?_)
      refine (copy_s o A1 _ cp1 _ XR2.out XI.out).mono ?_
      rintro e w3 ⟨iv2, rfl, ho2, hb⟩
      obtain ⟨A3, c3, rfl⟩ := ho2.shape
      have O3 := Lib.hid ho2
      have L3 := Lib.hid (HN2.out.trans (hb.mono HN2.out.size))
      have Y3 := Lib.hid (YW2.out.below hb YW2.out.lt)
      have S3 : Hid (w.heap.size + 2 ≤ wr.heap.size) := Lib.hid (by have := YW2.out.lt; omega)
      clear ho2 hb
      go_wp2_with (refine wpl_store_optM (o := o) rfl (by rfl) (by rfl) (by rfl) Y3.out rfl ?_)
      refine bodyPost_ret (results_opt2 rfl (by rfl) (by rfl) (Bx.setCells (vs := voC o (.slice A3 o.ids.length c3)) Y3.out rfl)) rfl ?_
      rw [HY.out]
      refine ⟨.slice A3 o.ids.length c3, rfl, ?_, Below.setCells' L3.out (by omega) _ _⟩
      have h1 := (O3.out.mono S3.out).farS (b := w.heap.size + 1) (by omega) 0 (voC o (.slice A3 o.ids.length c3))
      exact h1.mono (by omega)
    · have q1 : (o.k == kd) = false := by simp [hkd]
      have HP2 : Hid (∀ j q, j < k + 1 → x.ops[j]? = some q → q.k ≠ kd) := Lib.hid (fun j q hj hq => by
        by_cases e : j = k
        · subst e
          rw [XO.out] at hq
          obtain rfl := Option.some.inj hq
          exact hkd
        · exact HP.out j q (by omega) hq)
      clear hkd
      go_wp2
      go_roundw
      case rel => exact ⟨k + 1, by omega, by go_num, HP2, XW2, YW2, HN2⟩
      case measure => (simp [intOf]; try omega)
end Go.Proofs.Ytkgbkgonlopciaa

/- The walk of ReadOpt of the reference. -/
import Derived.Test.YtkgbkgonlopciaaA26
import Derived.Test.YtkgbkgonlopciaaA21
import Derived.Test.YtkgbkgonlopciaaA25
import Derived.Deep.Cut
import Derived.Outline
import Derived.Deep.QuietTactic
import Derived.BigQuiet
import Derived.Deep.RegionHeld
namespace Go.Proofs.Ytkgbkgonlopciaa
open Go.RowKit
set_option linter.unusedVariables false
set_option linter.unusedSimpArgs false
/-- the cells of a block after a row was put over a part of it -/
def setL : List Value → Nat → List Value → List Value
  | cs, _, [] => cs
  | cs, o, v :: vs => setL (cs.set o v) (o + 1) vs
theorem setL_over : ∀ (vs p q : List Value), vs.length = q.length → setL (p ++ q) p.length vs = p ++ vs
  | [], p, q, h => by
    obtain rfl : q = [] := List.eq_nil_of_length_eq_zero h.symm
    rfl
  | v :: vs, p, [], h => by cases h
  | v :: vs, p, x :: q, h => by
    unfold setL
    rw [List.set_append_right _ _ (Nat.le_refl _), Nat.sub_self, List.set_cons_zero]
    have := setL_over vs (p ++ [v]) q (by simpa using h)
    simp only [List.append_assoc, List.singleton_append, List.length_append, List.length_cons, List.length_nil, Nat.zero_add] at this
    exact this
theorem Blk.setCellsL {b : Nat} {t : TypeId} : ∀ (vs : List Value) (o : Nat) (w : World) (cs : List Value), Blk w b t cs → Blk (w.setCells b o vs) b t (setL cs o vs)
  | [], o, w, cs, h => h
  | v :: vs, o, w, cs, h => Blk.setCellsL vs (o + 1) (w.setCell ⟨b, o, none⟩ v) (cs.set o v) (h.set_ o v)
theorem Blk.setCells {w : World} {b : Nat} {t : TypeId} {cs vs : List Value} (h : Blk w b t cs) (hl : vs.length = cs.length) : Blk (w.setCells b 0 vs) b t vs :=
  (Blk.setCellsL vs 0 w cs h).eq (setL_over vs [] cs hl)
theorem Blk.farS {w : World} {g b : Nat} {t : TypeId} {cs : List Value} (h : Blk w g t cs) (hne : g ≠ b) (o : Nat) (vs : List Value) : Blk (w.setCells b o vs) g t cs :=
  (setCells_heap b vs o w g hne).trans h
theorem decF_k {p : Nat → Bool} {b : ByteArray} : ∀ {L : List (Nat × Nat)} {pos : Nat} {u v : OD}, decF p b L pos u = some v → v.k = u.k
  | [], _, u, v, h => by unfold decF at h; simp at h; rw [h]
  | f :: r, pos, u, v, h => by
    unfold decF at h
    split at h
    · rw [decF_k h, put_k]
    · cases h
theorem readP_kind {p : Nat → Bool} {s : ByteArray} {a : Int} (h : ¬ (1 ≤ (numAtN s a 1 : Int) ∧ (numAtN s a 1 : Int) ≤ 10)) : readP p s a = none := by
  cases e : readP p s a with
  | none => rfl
  | some o =>
    obtain ⟨A, rfl, hok, _⟩ := readP_some e
    unfold readP at e
    split at e
    · split at e
      · rename_i o' ho'
        split at e
        · simp only [Option.some.injEq] at e
          subst e
          have h1 := decF_k ho'
          have h2 := optOk_kR hok
          rw [h1] at h2
          exact absurd h2 h
        · cases e
      · cases e
    · cases e
set_option maxRecDepth 100000 in
set_option maxHeartbeats 6400000 in
theorem readOpt_s (s : ByteArray) (a : Int) (w : World) (hs : s.size ≤ 9223372036854775807) (ha : i64R a) :
    Calls Try.prog 45 #[.string s, .int .i64 a] w (GivesRead (readO s a) (a + 2 + numAtN s (a + 1) 1) w) := by
  obtain ⟨r, hr⟩ : ∃ r, r = readO s a := ⟨_, rfl⟩
  obtain ⟨a2, ha2⟩ : ∃ a2, a2 = a + 2 + (numAtN s (a + 1) 1 : Int) := ⟨_, rfl⟩
  rw [← hr, ← ha2]
  have HR := Lib.hid hr
  have HA2 := Lib.hid ha2
  have HA := Lib.hid ha
  clear hr ha2 ha
  go_enter Try.func45, Try.ntmps45
  go_upto_region 1 with (fail)
  obtain ⟨W, hW⟩ : ∃ W, W = w.alloc (.cells (voC (OD.new 0 []) (.slice none 0 0)).toArray 27) := ⟨_, rfl⟩
  change Code.wp _ _ _ _ (w.alloc (.cells (voC (OD.new 0 []) (.slice none 0 0)).toArray 27))
  rw [← hW]
  have L0 := Lib.hid ((Below.refl w.heap.size w).alloc (Nat.le_refl _) (.cells (voC (OD.new 0 []) (.slice none 0 0)).toArray 27))
  have X0 := Lib.hid (Blk.new w 27 (voC (OD.new 0 []) (.slice none 0 0)).toArray)
  rw [← hW] at L0 X0
  clear hW
  obtain ⟨K, hK⟩ : ∃ K, K = numAtN s a 1 := ⟨_, rfl⟩
  have hK256 : K < 256 := by rw [hK]; exact numAtN_1 s a
  go_wp2_with fail
  refine (numAt_s s a 1 _ hs).mono ?_
  rw [← hK]
  rintro e w1 ⟨rfl, hb⟩
  have L1 := Lib.hid (L0.out.trans (hb.mono L0.out.size))
  have X1 := Lib.hid (X0.out.below hb X0.out.lt)
  clear hb X0 L0
  cases b1 : numAtB s a 1
  case false =>
    have HN : Hid (r = none) := Lib.hid (by rw [HR.out]; unfold readO readP; rw [b1]; rfl)
    clear b1
    go_wp2_with (refine wpl_store_optM (o := OD.new 0 []) (A := none) (n := 0) (c := 0) rfl (by rfl) (by rfl) (by rfl) X1.out rfl ?_)
    refine bodyPost_ret (results_opt2 rfl (by rfl) (by rfl) (Bx.setCells (vs := voC (OD.new 0 []) (.slice none 0 0)) X1.out rfl)) rfl ?_
    rw [HN.out]
    exact read_no L1.out (Nat.le_refl _)
  obtain ⟨A, M1, rfl, hM1, _, _, hA1⟩ := numAtB_yes b1
  obtain rfl : M1 = 1 := by omega
  have B1 := Lib.hid b1
  have HKK := Lib.hid hK
  clear b1 hM1 hK
  obtain ⟨M, hM⟩ : ∃ M, M = numAtN s ((A : Int) + 1) 1 := ⟨_, rfl⟩
  have hM256 : M < 256 := by rw [hM]; exact numAtN_1 s _
  go_wp2_with fail
  refine (numAt_s s ((A : Int) + 1) 1 _ hs).mono ?_
  rw [← hM]
  rintro e w2 ⟨rfl, hb⟩
  have L2 := Lib.hid (L1.out.trans (hb.mono L1.out.size))
  have X2 := Lib.hid (X1.out.below hb X1.out.lt)
  clear hb X1 L1
  cases b2 : numAtB s ((A : Int) + 1) 1
  case false =>
    have HN : Hid (r = none) := Lib.hid (by rw [HR.out]; unfold readO readP; rw [b2, Bool.and_false]; rfl)
    clear b2
    go_wp2_with (refine wpl_store_optM (o := OD.new 0 []) (A := none) (n := 0) (c := 0) rfl (by rfl) (by rfl) (by rfl) X2.out rfl ?_)
    refine bodyPost_ret (results_opt2 rfl (by rfl) (by rfl) (Bx.setCells (vs := voC (OD.new 0 []) (.slice none 0 0)) X2.out rfl)) rfl ?_
    rw [HN.out]
    exact read_no L2.out (Nat.le_refl _)
  have hA2 : A + 2 ≤ s.size := by
    obtain ⟨A', M', h1, h2, _, _, h3⟩ := numAtB_yes b2
    omega
  by_cases ck : 1 ≤ (K : Int) ∧ (K : Int) ≤ 10
  case neg =>
    have CK : Hid ((decide (1 ≤ (K : Int)) && decide ((K : Int) ≤ 10)) = false) := Lib.hid (by simpa using ck)
    have HN : Hid (r = none) := Lib.hid (by rw [HR.out]; exact readP_kind (by rw [← HKK.out]; exact ck))
    clear ck b2
    go_wp2_with fail
    refine (within_s (K : Int) 1 10 _).mono ?_
    rw [CK.out]
    rintro e w3 ⟨rfl, rfl⟩
    go_wp2_with (refine wpl_store_optM (o := OD.new 0 []) (A := none) (n := 0) (c := 0) rfl (by rfl) (by rfl) (by rfl) X2.out rfl ?_)
    refine bodyPost_ret (results_opt2 rfl (by rfl) (by rfl) (Bx.setCells (vs := voC (OD.new 0 []) (.slice none 0 0)) X2.out rfl)) rfl ?_
    rw [HN.out]
    exact read_no L2.out (Nat.le_refl _)
  have CK : Hid ((decide (1 ≤ (K : Int)) && decide ((K : Int) ≤ 10)) = true) := Lib.hid (by simpa using ck)
  have HCK := Lib.hid ck
  clear ck
  have B2 := Lib.hid b2
  have HMM := Lib.hid hM
  have HA2' : Hid (a2 = (A : Int) + 2 + (M : Int)) := Lib.hid (by rw [HA2.out, HMM.out])
  clear b2 hM HA2
  go_wp2_with fail
  refine (within_s (K : Int) 1 10 _).mono ?_
  rw [CK.out]
  rintro e w3 ⟨rfl, rfl⟩
  obtain ⟨t, ht⟩ : ∃ t, t = textAtS s ((A : Int) + 2) (M : Int) := ⟨_, rfl⟩
  have hts : t.size ≤ M := by rw [ht]; exact textAtS_size s _ _ M rfl
  go_wp2_with fail
  refine (textAt_s s ((A : Int) + 2) (M : Int) _ hs).mono ?_
  rw [← ht]
  rintro e w3 ⟨rfl, rfl⟩
  cases b3 : textAtB s ((A : Int) + 2) (M : Int)
  case false =>
    have HN : Hid (r = none) := Lib.hid (by rw [HR.out]; unfold readO readP; rw [← HMM.out, b3, Bool.and_false]; rfl)
    clear b3 ht
    go_wp2_with (refine wpl_store_optM (o := OD.new 0 []) (A := none) (n := 0) (c := 0) rfl (by rfl) (by rfl) (by rfl) X2.out rfl ?_)
    refine bodyPost_ret (results_opt2 rfl (by rfl) (by rfl) (Bx.setCells (vs := voC (OD.new 0 []) (.slice none 0 0)) X2.out rfl)) rfl ?_
    rw [HN.out]
    exact read_no L2.out (Nat.le_refl _)
  have hA3 : A + 2 + M ≤ s.size := by
    obtain ⟨A', M', h1, h2, h3⟩ := textAtB_yes b3
    omega
  have HT := Lib.hid ht
  have HRR : Hid (r = match decF (fun n => n != 0) t (lay (K : Int)) 0 (startO (K : Int) t) with
      | some o => if optL o = (textAtS s A (2 + (M : Int))).data.toList then some o else none
      | none => none) := Lib.hid (by
    rw [HR.out]
    unfold readO
    rw [readP_same (q := fun n => n != 0) (by rfl) (by rfl) (by rfl) (by rfl)]
    unfold readP
    rw [← HMM.out, ← HKK.out, B1.out, B2.out, b3, ← HT.out]
    rfl)
  clear b3 ht HR B1 B2
  go_upto_region 11 with (fail)
  obtain ⟨W3, hW3⟩ : ∃ W3, W3 = w2.alloc (.cells (voC (OD.new (K : Int) []) (.slice none 0 0)).toArray 27) := ⟨_, rfl⟩
  change Code.wp _ _ _ _ (w2.alloc (.cells (voC (OD.new (K : Int) []) (.slice none 0 0)).toArray 27))
  rw [← hW3]
  have X3 := Lib.hid (Blk.new w2 27 (voC (OD.new (K : Int) []) (.slice none 0 0)).toArray)
  rw [← hW3] at X3
  have L3 : Hid (Below w.heap.size w W3) := Lib.hid (by rw [hW3]; exact L2.out.alloc L2.out.size _)
  have Y3 : Hid (Blk W3 w.heap.size 27 (voC (OD.new 0 []) (.slice none 0 0))) := Lib.hid (by rw [hW3]; exact X2.out.alloc _)
  have hne : w.heap.size < w2.heap.size := X2.out.lt
  have hws3 : W3.heap.size = w2.heap.size + 1 := by rw [hW3]; simp
  clear hW3 X2 L2
  go_wp2_with fail
  refine (shape_s (K : Int) _ HCK.out).mono ?_
  rintro e w4 ⟨rfl, hb4⟩
  have V3 := Lib.hid (X3.out.below hb4 X3.out.lt)
  have V4 := Lib.hid (Y3.out.below hb4 Y3.out.lt)
  have L4 := Lib.hid (L3.out.trans (hb4.mono L3.out.size))
  obtain ⟨m, hm⟩ : ∃ m, m = (lay (K : Int)).length := ⟨_, rfl⟩
  have hm4 : m ≤ 4 := by
    rw [hm]; unfold lay
    repeat' split
    all_goals simp
  obtain ⟨S, hS⟩ : ∃ S, S = shp (K : Int) := ⟨_, rfl⟩
  have hss : S.size = m * 2 := by rw [hS, hm]; exact shp_size (K : Int)
  rw [← hS]
  obtain ⟨b3, hb3⟩ : ∃ b, b = w2.heap.size := ⟨_, rfl⟩
  have hws4 : b3 + 1 ≤ w4.heap.size := by have := hb4.size; omega
  have HB4 := Lib.hid hws4
  rw [← hb3] at V3 hne ⊢
  have HSP := Lib.hid hS
  have HMM2 := Lib.hid hm
  have HSS := Lib.hid hss
  clear hb4 X3 Y3 L3 hm hb3 hS hss hws3 hws4
  go_wp2
  go_loopw [14, 15] (fun ps i wr => ∃ (j pos : Nat) (v : OD), j ≤ m ∧ i = .int .i64 ((j * 2 : Nat) : Int) ∧ ps = .int .i64 (pos : Int) ∧ pos ≤ 20 * j ∧ Hid (decF (fun n => n != 0) t (lay (K : Int)) 0 (OD.new (K : Int) []) = decF (fun n => n != 0) t ((lay (K : Int)).drop j) pos v) ∧ Hid v.wf ∧ Hid (v.ids = []) ∧
      Hid (Blk wr b3 27 (voC v (.slice none 0 0))) ∧ Hid (Blk wr w.heap.size 27 (voC (OD.new 0 []) (.slice none 0 0))) ∧ Hid (Below w.heap.size w wr) ∧ Hid (b3 + 1 ≤ wr.heap.size)) (fun _ i _ => m * 2 - (intOf i).toNat)
  case atStart => exact ⟨0, 0, _, Nat.zero_le _, rfl, rfl, by omega, Lib.hid rfl, Lib.hid (wf_new (i64R_nat (by omega)) (by simp)), Lib.hid rfl, V3, V4, L4, HB4⟩
  case round =>
    clear V3 V4 L4 HB4
    obtain ⟨j, pos, v, hj, rfl, rfl, hpos, HD0, HV, HI, V3, V4, LW, HB⟩ := hrel
    by_cases hlt : j < m
    case neg =>
      obtain rfl : j = m := by omega
      have q1 : ¬ (((j * 2 : Nat) : Int) + 1 < (S.size : Int)) := by have := HSS.out; omega
      have HD : Hid (decF (fun n => n != 0) t (lay (K : Int)) 0 (OD.new (K : Int) []) = some v) := Lib.hid (by
        rw [HD0.out, HMM2.out, List.drop_length]; rfl)
      have H8 : Hid (K = 8 → pos = 0 ∧ v = OD.new 8 []) := Lib.hid (fun h8 => by
        subst h8
        have hj0 : j = 0 := by rw [HMM2.out]; rfl
        have := HD.out
        rw [show lay ((8 : Nat) : Int) = [] from rfl] at this
        exact ⟨by omega, (Option.some.inj this).symm⟩)
      clear HD0
      obtain ⟨i0, hi, hz0, hz1, hz2⟩ := info_parts i64_info
      go_wp2
      obtain ⟨wo, rfl⟩ : ∃ wo : World, wo = wr := ⟨_, rfl⟩
      go_loopw [14] (fun ps wr => ∃ (k nv cv : Nat) (Av : Option Addr) (I : List Int), ps = .int .i64 (k : Int) ∧ Hid (k ≤ 400) ∧ Hid (K = 8 → k ≤ t.size ∧ I = (t.data.toList.take k).map fun c => (c.toNat : Int)) ∧ Hid (K ≠ 8 → I = []) ∧ Hid (nv = I.length) ∧ Hid (nv ≤ 300) ∧ Hid (Obs wr (b3 + 1) 1 (.slice Av nv cv) nv (I.map vn)) ∧ Hid (Blk wr b3 27 (voC v (.slice Av nv cv))) ∧ Hid (Blk wr w.heap.size 27 (voC (OD.new 0 []) (.slice none 0 0))) ∧ Hid (Below w.heap.size w wr) ∧ Hid (b3 + 1 ≤ wr.heap.size)) (fun ps _ => t.size - (intOf ps).toNat)
      case atStart => exact ⟨pos, 0, 0, none, [], rfl, Lib.hid (by omega), Lib.hid (fun h8 => ⟨by have := (H8.out h8).1; omega, by rw [(H8.out h8).1]; rfl⟩), Lib.hid (fun _ => rfl), Lib.hid rfl, Lib.hid (by omega), Lib.hid (Obs.nil _ _ _), V3, V4, LW, HB⟩
      case round =>
        clear V3 V4 LW HB
        obtain ⟨k, nv, cv, Av, I, rfl, HKL, HI8, HIN, HNV, HNL, OV, V3, V4, LW, HB⟩ := hrel
        have hk4 : k ≤ 400 := HKL.out
        by_cases hlt : K = 8 ∧ k < t.size
        case neg =>
          obtain ⟨u, hu⟩ : ∃ u : OD, u = { v with ids := I } := ⟨_, rfl⟩
          have HIB : ∀ x ∈ I, i64R x := fun x hx => by
            by_cases h8 : K = 8
            · rw [(HI8.out h8).2] at hx
              obtain ⟨c, _, rfl⟩ := List.mem_map.1 hx
              have := c.toNat_lt
              exact i64R_nat (by omega)
            · rw [HIN.out h8] at hx; cases hx
          have HU : Hid u.wf := Lib.hid (by
            obtain ⟨h1, h2, h3⟩ := HV.out
            rw [hu]
            exact ⟨h1, h2, HIB⟩)
          have HST : Hid (decF (fun n => n != 0) t (lay (K : Int)) 0 (startO (K : Int) t) = some u) := Lib.hid (by
            by_cases h8 : K = 8
            · have hkk : k = t.size := by have := (HI8.out h8).1; omega
              have hI := (HI8.out h8).2
              rw [hkk, List.take_of_length_le (by simp)] at hI
              rw [hu, (H8.out h8).2, hI]
              subst h8
              rw [show lay ((8 : Nat) : Int) = [] from rfl]
              unfold startO decF
              rfl
            · rw [show startO (K : Int) t = OD.new (K : Int) [] by unfold startO; rw [if_neg (by omega)], HD.out, hu, HIN.out h8, ← HI.out])
          have V3 : Hid (Blk wr b3 27 (voC u (.slice Av nv cv))) := Lib.hid (by rw [hu]; exact V3.out)
          have HNU : Hid (nv = u.ids.length) := Lib.hid (by rw [HNV.out, hu])
          have OV : Hid (Obs wr (b3 + 1) 1 (.slice Av nv cv) nv (u.ids.map vn)) := Lib.hid (by rw [hu]; exact OV.out)
          have HO := Lib.hid (show r = if optL u = (textAtS s A (2 + (M : Int))).data.toList then some u else none from by rw [HRR.out, HST.out])
          clear hu HIB HST HD H8 HV
          obtain ⟨T, hT⟩ : ∃ T, T = s.extract A (A + 2 + M) := ⟨_, rfl⟩
          have HT2 : Hid ((textAtS s A (2 + (M : Int))).data.toList = T.data.toList) := Lib.hid (by
            rw [show (2 : Int) + (M : Int) = ((2 + M : Nat) : Int) by omega, textAtS_mk (by omega), hT, Nat.add_assoc])
          have HTS : Hid (T.data.toList.length = (M + 1) + 1) := Lib.hid (by rw [data_len, hT]; simp [ByteArray.size_extract]; omega)
          obtain ⟨R1, hR1⟩ : ∃ R1, R1 = str (optL u) := ⟨_, rfl⟩
          have HR1 := Lib.hid hR1
          have w1 : IntKind.i64.wrap ((A : Int) + 2) = (A : Int) + 2 := IntWalk.i64_in _ (by omega)
          have w2' : IntKind.i64.wrap ((A : Int) + 2 + (M : Int)) = (A : Int) + 2 + (M : Int) := IntWalk.i64_in _ (by omega)
          have g0 : (0 : Int) ≤ (A : Int) + 2 + (M : Int) := by omega
          have g1 : (A : Int) ≤ (A : Int) + 2 + (M : Int) := by omega
          have g2 : (A : Int) + 2 + (M : Int) ≤ (s.size : Int) := by omega
          have g3 : ((A : Int) + 2 + (M : Int)).toNat = A + 2 + M := by omega
          have hTx : s.extract A (A + 2 + M) = T := hT.symm
          clear hR1 hT
          by_cases h8 : K = 8
          · have q3 : ¬ ((k : Int) < (t.size : Int)) := by have := fun h => hlt ⟨h8, h⟩; omega
            have q4 : ((K : Int) == 8) = true := by subst h8; rfl
            clear h8 hlt
            go_wp2_with fail
            refine wp_region_held_drew (S := fun w' => Bx w' b3 (voC u (.slice Av nv cv)) ∧ Below wr.heap.size wr w') (by kernel_rfl) ⟨(Bx.of_blk V3.out).drew, (Below.refl _ wr).drew⟩ (fun hHeld => ?_)
            refine wpAnyH_take (i := 0) (oi := ⟨some 117, _, _, _, _, _⟩) rfl (by kernel_rfl) (by kernel_rfl) (by kernel_rfl) (fun _ _ _ h => h) (yields_opt (by kernel_rfl) rfl (by rfl) (fun w h => h.1)) (by assumption) ?_
            try simp only [Act.put, List.setIfInBounds_toArray, List.set_cons_zero, List.set_cons_succ]
            refine wpAnyH_ready (rs := [1]) (by kernel_rfl) (by simp) ?_
            refine AllReadyH.cons (o := ⟨some 118, _, _, _, _, _⟩) rfl (fun K hK => ?_) AllReadyH.nil
            go_simp
            (go_at_call 37; refine (optText_s u Av nv cv _ OV.out.drew.rd HU.out).mono ?_; rw [← HR1.out]; rintro e w5 ⟨rfl, hb5⟩)
            try go_wp2_with fail
            refine hK.out _ _ ?_ (fun hHeld => ?_)
            · exact ⟨(Bx.of_blk V3.out).drew.below hb5, (Below.refl _ wr).drew.trans hb5⟩
            clear hK K
            try simp only [Act.put, List.setIfInBounds_toArray, List.set_cons_zero, List.set_cons_succ]
            have B5 := Lib.hid ((Below.refl wr.heap.size wr).drew.trans hb5)
            clear hb5
            by_cases c0 : R1.data.toList = []
            · have d0 : (R1.toList.isEmpty) = true := by rw [ByteArray.toList_eq, c0]; rfl
              have d0b : (R1.toList == []) = true := by rw [ByteArray.toList_eq, c0]; rfl
              have HN : Hid (r = none) := Lib.hid (by
                rw [HO.out, if_neg]; rw [HT2.out]; intro e
                have h1 : T.data.toList = [] := by rw [← e, ← c0, HR1.out, str_toList]
                have h2 := HTS.out
                rw [h1] at h2; cases h2)
              clear c0
              refine wpAnyH_take (i := 2) (oi := ⟨some 119, _, _, _, _, _⟩) (v := ?_) rfl (by kernel_rfl) (by kernel_rfl) (by kernel_rfl) (fun _ _ _ h => h) (Or.inl ⟨by kernel_rfl, ?_⟩) (by assumption) ?_
              rotate_left
              · (intro w hSw; (try dsimp only at hSw); go_simp; try (with_reducible rfl))
              try simp only [Act.put, List.setIfInBounds_toArray, List.set_cons_zero, List.set_cons_succ]
              refine wpAnyH_take (i := 3) (oi := ⟨some 120, _, _, _, _, _⟩) (v := ?_) rfl (by kernel_rfl) (by kernel_rfl) (by kernel_rfl) (fun _ _ _ h => h) (Or.inl ⟨by kernel_rfl, ?_⟩) (by assumption) ?_
              rotate_left
              · (intro w hSw; (try dsimp only at hSw); go_simp; try (with_reducible rfl))
              try simp only [Act.put, List.setIfInBounds_toArray, List.set_cons_zero, List.set_cons_succ]
              refine wpAnyH_take (i := 4) (oi := ⟨some 121, _, _, _, _, _⟩) (v := undef) rfl (by kernel_rfl) (by kernel_rfl) (by kernel_rfl) (fun _ _ _ h => h) (Or.inr ⟨by kernel_rfl, rfl⟩) (by assumption) ?_
              try simp only [Act.put, List.setIfInBounds_toArray, List.set_cons_zero, List.set_cons_succ]
              refine wpAnyH_take (i := 5) (oi := ⟨some 122, _, _, _, _, _⟩) (v := undef) rfl (by kernel_rfl) (by kernel_rfl) (by kernel_rfl) (fun _ _ _ h => h) (Or.inr ⟨by kernel_rfl, rfl⟩) (by assumption) ?_
              try simp only [Act.put, List.setIfInBounds_toArray, List.set_cons_zero, List.set_cons_succ]
              refine wpAnyH_take (i := 6) (oi := ⟨some 123, _, _, _, _, _⟩) (v := undef) rfl (by kernel_rfl) (by kernel_rfl) (by kernel_rfl) (fun _ _ _ h => h) (Or.inr ⟨by kernel_rfl, rfl⟩) (by assumption) ?_
              try simp only [Act.put, List.setIfInBounds_toArray, List.set_cons_zero, List.set_cons_succ]
              refine wpAnyH_take (i := 7) (oi := ⟨some 124, _, _, _, _, _⟩) (v := undef) rfl (by kernel_rfl) (by kernel_rfl) (by kernel_rfl) (fun _ _ _ h => h) (Or.inr ⟨by kernel_rfl, rfl⟩) (by assumption) ?_
              try simp only [Act.put, List.setIfInBounds_toArray, List.set_cons_zero, List.set_cons_succ]
              refine wpAnyH_take (i := 8) (oi := ⟨some 125, _, _, _, _, _⟩) (v := undef) rfl (by kernel_rfl) (by kernel_rfl) (by kernel_rfl) (fun _ _ _ h => h) (Or.inr ⟨by kernel_rfl, rfl⟩) (by assumption) ?_
              try simp only [Act.put, List.setIfInBounds_toArray, List.set_cons_zero, List.set_cons_succ]
              refine wpAnyH_take (i := 9) (oi := ⟨some 126, _, _, _, _, _⟩) (v := undef) rfl (by kernel_rfl) (by kernel_rfl) (by kernel_rfl) (fun _ _ _ h => h) (Or.inr ⟨by kernel_rfl, rfl⟩) (by assumption) ?_
              try simp only [Act.put, List.setIfInBounds_toArray, List.set_cons_zero, List.set_cons_succ]
              refine wpAnyH_take (i := 10) (oi := ⟨some 127, _, _, _, _, _⟩) (v := undef) rfl (by kernel_rfl) (by kernel_rfl) (by kernel_rfl) (fun _ _ _ h => h) (Or.inr ⟨by kernel_rfl, rfl⟩) (by assumption) ?_
              try simp only [Act.put, List.setIfInBounds_toArray, List.set_cons_zero, List.set_cons_succ]
              refine wpAnyH_take (i := 11) (oi := ⟨some 128, _, _, _, _, _⟩) (v := undef) rfl (by kernel_rfl) (by kernel_rfl) (by kernel_rfl) (fun _ _ _ h => h) (Or.inr ⟨by kernel_rfl, rfl⟩) (by assumption) ?_
              try simp only [Act.put, List.setIfInBounds_toArray, List.set_cons_zero, List.set_cons_succ]
              refine wpAnyH_take (i := 12) (oi := ⟨some 129, _, _, _, _, _⟩) (v := undef) rfl (by kernel_rfl) (by kernel_rfl) (by kernel_rfl) (fun _ _ _ h => h) (Or.inr ⟨by kernel_rfl, rfl⟩) (by assumption) ?_
              try simp only [Act.put, List.setIfInBounds_toArray, List.set_cons_zero, List.set_cons_succ]
              refine wpAnyH_take (i := 13) (oi := ⟨some 130, _, _, _, _, _⟩) (v := undef) rfl (by kernel_rfl) (by kernel_rfl) (by kernel_rfl) (fun _ _ _ h => h) (Or.inr ⟨by kernel_rfl, rfl⟩) (by assumption) ?_
              try simp only [Act.put, List.setIfInBounds_toArray, List.set_cons_zero, List.set_cons_succ]
              refine wpAnyH_take (i := 14) (oi := ⟨some 131, _, _, _, _, _⟩) (v := ?_) rfl (by kernel_rfl) (by kernel_rfl) (by kernel_rfl) (fun _ _ _ h => h) (Or.inl ⟨by kernel_rfl, ?_⟩) (by assumption) ?_
              rotate_left
              · (intro w hSw; (try dsimp only at hSw); go_simp; try (with_reducible rfl))
              try simp only [Act.put, List.setIfInBounds_toArray, List.set_cons_zero, List.set_cons_succ]
              refine wpAnyH_done (by kernel_rfl) ?_ _
              repeat clear hHeld
              have L5 := Lib.hid (LW.out.trans (B5.out.mono LW.out.size))
              have Z4 := Lib.hid (V4.out.below B5.out V4.out.lt)
              go_wp2_with (refine wpl_store_optM (o := OD.new 0 []) (A := none) (n := 0) (c := 0) rfl (by rfl) (by rfl) (by rfl) Z4.out rfl ?_)
              refine bodyPost_ret (results_opt2 rfl (by rfl) (by rfl) (Bx.setCells (vs := voC (OD.new 0 []) (.slice none 0 0)) Z4.out rfl)) rfl ?_
              rw [HN.out]
              exact read_no L5.out (Nat.le_refl _)
            · have d0 : (R1.toList.isEmpty) = false := by rw [ByteArray.toList_eq]; cases e : R1.data.toList with | nil => exact absurd e c0 | cons => rfl
              have d0b : (R1.toList == []) = false := by rw [ByteArray.toList_eq]; cases e : R1.data.toList with | nil => exact absurd e c0 | cons => rfl
              clear c0
              refine wpAnyH_take (i := 2) (oi := ⟨some 119, _, _, _, _, _⟩) (v := ?_) rfl (by kernel_rfl) (by kernel_rfl) (by kernel_rfl) (fun _ _ _ h => h) (Or.inl ⟨by kernel_rfl, ?_⟩) (by assumption) ?_
              rotate_left
              · (intro w hSw; (try dsimp only at hSw); go_simp; try (with_reducible rfl))
              try simp only [Act.put, List.setIfInBounds_toArray, List.set_cons_zero, List.set_cons_succ]
              refine wpAnyH_take (i := 3) (oi := ⟨some 120, _, _, _, _, _⟩) (v := ?_) rfl (by kernel_rfl) (by kernel_rfl) (by kernel_rfl) (fun _ _ _ h => h) (Or.inl ⟨by kernel_rfl, ?_⟩) (by assumption) ?_
              rotate_left
              · (intro w hSw; (try dsimp only at hSw); go_simp; try (with_reducible rfl))
              try simp only [Act.put, List.setIfInBounds_toArray, List.set_cons_zero, List.set_cons_succ]
              have O5 := Lib.hid (OV.out.below B5.out)
              refine wpAnyH_take (i := 4) (oi := ⟨some 121, _, _, _, _, _⟩) rfl (by kernel_rfl) (by kernel_rfl) (by kernel_rfl) (fun _ _ _ h => h) (yields_opt (by kernel_rfl) rfl (by rfl) (fun w h => h.1)) (by assumption) ?_
              try simp only [Act.put, List.setIfInBounds_toArray, List.set_cons_zero, List.set_cons_succ]
              refine wpAnyH_take (i := 6) (oi := ⟨some 123, _, _, _, _, _⟩) (v := ?_) rfl (by kernel_rfl) (by kernel_rfl) (by kernel_rfl) (fun _ _ _ h => h) (Or.inl ⟨by kernel_rfl, ?_⟩) (by assumption) ?_
              rotate_left
              · (intro w hSw; (try dsimp only at hSw); go_simp; try (with_reducible rfl))
              try simp only [Act.put, List.setIfInBounds_toArray, List.set_cons_zero, List.set_cons_succ]
              refine wpAnyH_take (i := 7) (oi := ⟨some 124, _, _, _, _, _⟩) (v := ?_) rfl (by kernel_rfl) (by kernel_rfl) (by kernel_rfl) (fun _ _ _ h => h) (Or.inl ⟨by kernel_rfl, ?_⟩) (by assumption) ?_
              rotate_left
              · (intro w hSw; (try dsimp only at hSw); go_simp; try (with_reducible rfl))
              try simp only [Act.put, List.setIfInBounds_toArray, List.set_cons_zero, List.set_cons_succ]
              refine wpAnyH_take (i := 8) (oi := ⟨some 125, _, _, _, _, _⟩) (v := ?_) rfl (by kernel_rfl) (by kernel_rfl) (by kernel_rfl) (fun _ _ _ h => h) (Or.inl ⟨by kernel_rfl, ?_⟩) (by assumption) ?_
              rotate_left
              · (intro w hSw; (try dsimp only at hSw); go_simp; try (with_reducible rfl))
              try simp only [Act.put, List.setIfInBounds_toArray, List.set_cons_zero, List.set_cons_succ]
              refine wpAnyH_take (i := 9) (oi := ⟨some 126, _, _, _, _, _⟩) (v := ?_) rfl (by kernel_rfl) (by kernel_rfl) (by kernel_rfl) (fun _ _ _ h => h) (Or.inl ⟨by kernel_rfl, ?_⟩) (by assumption) ?_
              rotate_left
              · (intro w hSw; (try dsimp only at hSw); go_simp; try (with_reducible rfl))
              try simp only [Act.put, List.setIfInBounds_toArray, List.set_cons_zero, List.set_cons_succ]
              refine wpAnyH_take (i := 10) (oi := ⟨some 127, _, _, _, _, _⟩) (v := ?_) rfl (by kernel_rfl) (by kernel_rfl) (by kernel_rfl) (fun _ _ _ h => h) (Or.inl ⟨by kernel_rfl, ?_⟩) (by assumption) ?_
              rotate_left
              · (intro w hSw; (try dsimp only at hSw); go_simp; try (with_reducible rfl))
              try simp only [Act.put, List.setIfInBounds_toArray, List.set_cons_zero, List.set_cons_succ]
              refine wpAnyH_take (i := 11) (oi := ⟨some 128, _, _, _, _, _⟩) (v := ?_) rfl (by kernel_rfl) (by kernel_rfl) (by kernel_rfl) (fun _ _ _ h => h) (Or.inl ⟨by kernel_rfl, ?_⟩) (by assumption) ?_
              rotate_left
              · (intro w hSw; (try dsimp only at hSw); go_simp; try (with_reducible rfl))
              try simp only [Act.put, List.setIfInBounds_toArray, List.set_cons_zero, List.set_cons_succ]
              refine wpAnyH_take (i := 12) (oi := ⟨some 129, _, _, _, _, _⟩) (v := ?_) rfl (by kernel_rfl) (by kernel_rfl) (by kernel_rfl) (fun _ _ _ h => h) (Or.inl ⟨by kernel_rfl, ?_⟩) (by assumption) ?_
              rotate_left
              · (intro w hSw; (try dsimp only at hSw); go_simp; try (with_reducible rfl))
              try simp only [Act.put, List.setIfInBounds_toArray, List.set_cons_zero, List.set_cons_succ]
              refine wpAnyH_ready (rs := [5]) (by kernel_rfl) (by simp) ?_
              refine AllReadyH.cons (o := ⟨some 122, _, _, _, _, _⟩) rfl (fun K hK => ?_) AllReadyH.nil
              go_simp
              (go_at_call 37; refine (optText_s u Av nv cv _ O5.out.rd HU.out).mono ?_; rw [← HR1.out]; rintro e w6 ⟨rfl, hb6⟩)
              try go_wp2_with fail
              refine hK.out _ _ ?_ (fun hHeld => ?_)
              · exact ⟨((Bx.of_blk V3.out).below B5.out).below hb6, B5.out.trans (hb6.mono B5.out.size)⟩
              clear hK K
              try simp only [Act.put, List.setIfInBounds_toArray, List.set_cons_zero, List.set_cons_succ]
              have B6 := Lib.hid (B5.out.trans (hb6.mono B5.out.size))
              clear hb6
              have L5 := Lib.hid (LW.out.trans (B6.out.mono LW.out.size))
              have Z3 := Lib.hid (V3.out.below B6.out V3.out.lt)
              have Z4 := Lib.hid (V4.out.below B6.out V4.out.lt)
              have O6 := Lib.hid (OV.out.below B6.out)
              clear B5 O5 B6
              by_cases ce : R1.data.toList = T.data.toList
              · have d1 : (R1.toList == T.toList) = true := by rw [ByteArray.toList_eq, ByteArray.toList_eq]; simp [ce]
                have HY : Hid (r = some u) := Lib.hid (by rw [HO.out, if_pos]; rw [HT2.out, ← ce, HR1.out, str_toList])
                clear ce
                refine wpAnyH_take (i := 13) (oi := ⟨some 130, _, _, _, _, _⟩) (v := ?_) rfl (by kernel_rfl) (by kernel_rfl) (by kernel_rfl) (fun _ _ _ h => h) (Or.inl ⟨by kernel_rfl, ?_⟩) (by assumption) ?_
                rotate_left
                · (intro w hSw; (try dsimp only at hSw); go_simp; try (with_reducible rfl))
                try simp only [Act.put, List.setIfInBounds_toArray, List.set_cons_zero, List.set_cons_succ]
                refine wpAnyH_take (i := 14) (oi := ⟨some 131, _, _, _, _, _⟩) (v := ?_) rfl (by kernel_rfl) (by kernel_rfl) (by kernel_rfl) (fun _ _ _ h => h) (Or.inl ⟨by kernel_rfl, ?_⟩) (by assumption) ?_
                rotate_left
                · (intro w hSw; (try dsimp only at hSw); go_simp; try (with_reducible rfl))
                try simp only [Act.put, List.setIfInBounds_toArray, List.set_cons_zero, List.set_cons_succ]
                refine wpAnyH_done (by kernel_rfl) ?_ _
                repeat clear hHeld
                go_wp2_with (first | (refine wpl_opt (o := u) rfl (by rfl) (by rfl) (Bx.of_blk Z3.out) ?_) | (refine wpl_store_optM (o := u) rfl (by rfl) (by rfl) (by rfl) Z4.out rfl ?_))
                refine bodyPost_ret (results_opt2 rfl (by rfl) (by rfl) (Bx.setCells (vs := voC u (.slice Av nv cv)) Z4.out rfl)) rfl ?_
                rw [HY.out]
                refine ⟨.slice Av nv cv, by rw [HA2'.out]; rfl, ?_, HU.out, Below.setCells' L5.out (Nat.le_refl _) _ _⟩
                have e9 := HNU.out
                rw [← e9]
                exact ((O6.out.farS (by omega) _ _).mono (by omega))
              · have d1 : (R1.toList == T.toList) = false := by rw [ByteArray.toList_eq, ByteArray.toList_eq]; exact beq_eq_false_iff_ne.2 ce
                have HN : Hid (r = none) := Lib.hid (by rw [HO.out, if_neg]; rw [HT2.out]; intro e; exact ce (by rw [← e, HR1.out, str_toList]))
                clear ce
                refine wpAnyH_take (i := 13) (oi := ⟨some 130, _, _, _, _, _⟩) (v := ?_) rfl (by kernel_rfl) (by kernel_rfl) (by kernel_rfl) (fun _ _ _ h => h) (Or.inl ⟨by kernel_rfl, ?_⟩) (by assumption) ?_
                rotate_left
                · (intro w hSw; (try dsimp only at hSw); go_simp; try (with_reducible rfl))
                try simp only [Act.put, List.setIfInBounds_toArray, List.set_cons_zero, List.set_cons_succ]
                refine wpAnyH_take (i := 14) (oi := ⟨some 131, _, _, _, _, _⟩) (v := ?_) rfl (by kernel_rfl) (by kernel_rfl) (by kernel_rfl) (fun _ _ _ h => h) (Or.inl ⟨by kernel_rfl, ?_⟩) (by assumption) ?_
                rotate_left
                · (intro w hSw; (try dsimp only at hSw); go_simp; try (with_reducible rfl))
                try simp only [Act.put, List.setIfInBounds_toArray, List.set_cons_zero, List.set_cons_succ]
                refine wpAnyH_done (by kernel_rfl) ?_ _
                repeat clear hHeld
                go_wp2_with (refine wpl_store_optM (o := OD.new 0 []) (A := none) (n := 0) (c := 0) rfl (by rfl) (by rfl) (by rfl) Z4.out rfl ?_)
                refine bodyPost_ret (results_opt2 rfl (by rfl) (by rfl) (Bx.setCells (vs := voC (OD.new 0 []) (.slice none 0 0)) Z4.out rfl)) rfl ?_
                rw [HN.out]
                exact read_no L5.out (Nat.le_refl _)
          · have q4 : ((K : Int) == 8) = false := by simp; omega
            clear h8 hlt
            go_wp2_with fail
            refine wp_region_held_drew (S := fun w' => Bx w' b3 (voC u (.slice Av nv cv)) ∧ Below wr.heap.size wr w') (by kernel_rfl) ⟨(Bx.of_blk V3.out).drew, (Below.refl _ wr).drew⟩ (fun hHeld => ?_)
            refine wpAnyH_take (i := 0) (oi := ⟨some 117, _, _, _, _, _⟩) rfl (by kernel_rfl) (by kernel_rfl) (by kernel_rfl) (fun _ _ _ h => h) (yields_opt (by kernel_rfl) rfl (by rfl) (fun w h => h.1)) (by assumption) ?_
            try simp only [Act.put, List.setIfInBounds_toArray, List.set_cons_zero, List.set_cons_succ]
            refine wpAnyH_ready (rs := [1]) (by kernel_rfl) (by simp) ?_
            refine AllReadyH.cons (o := ⟨some 118, _, _, _, _, _⟩) rfl (fun K hK => ?_) AllReadyH.nil
            go_simp
            (go_at_call 37; refine (optText_s u Av nv cv _ OV.out.drew.rd HU.out).mono ?_; rw [← HR1.out]; rintro e w5 ⟨rfl, hb5⟩)
            try go_wp2_with fail
            refine hK.out _ _ ?_ (fun hHeld => ?_)
            · exact ⟨(Bx.of_blk V3.out).drew.below hb5, (Below.refl _ wr).drew.trans hb5⟩
            clear hK K
            try simp only [Act.put, List.setIfInBounds_toArray, List.set_cons_zero, List.set_cons_succ]
            have B5 := Lib.hid ((Below.refl wr.heap.size wr).drew.trans hb5)
            clear hb5
            by_cases c0 : R1.data.toList = []
            · have d0 : (R1.toList.isEmpty) = true := by rw [ByteArray.toList_eq, c0]; rfl
              have d0b : (R1.toList == []) = true := by rw [ByteArray.toList_eq, c0]; rfl
              have HN : Hid (r = none) := Lib.hid (by
                rw [HO.out, if_neg]; rw [HT2.out]; intro e
                have h1 : T.data.toList = [] := by rw [← e, ← c0, HR1.out, str_toList]
                have h2 := HTS.out
                rw [h1] at h2; cases h2)
              clear c0
              refine wpAnyH_take (i := 2) (oi := ⟨some 119, _, _, _, _, _⟩) (v := ?_) rfl (by kernel_rfl) (by kernel_rfl) (by kernel_rfl) (fun _ _ _ h => h) (Or.inl ⟨by kernel_rfl, ?_⟩) (by assumption) ?_
              rotate_left
              · (intro w hSw; (try dsimp only at hSw); go_simp; try (with_reducible rfl))
              try simp only [Act.put, List.setIfInBounds_toArray, List.set_cons_zero, List.set_cons_succ]
              refine wpAnyH_take (i := 3) (oi := ⟨some 120, _, _, _, _, _⟩) (v := ?_) rfl (by kernel_rfl) (by kernel_rfl) (by kernel_rfl) (fun _ _ _ h => h) (Or.inl ⟨by kernel_rfl, ?_⟩) (by assumption) ?_
              rotate_left
              · (intro w hSw; (try dsimp only at hSw); go_simp; try (with_reducible rfl))
              try simp only [Act.put, List.setIfInBounds_toArray, List.set_cons_zero, List.set_cons_succ]
              refine wpAnyH_take (i := 4) (oi := ⟨some 121, _, _, _, _, _⟩) (v := undef) rfl (by kernel_rfl) (by kernel_rfl) (by kernel_rfl) (fun _ _ _ h => h) (Or.inr ⟨by kernel_rfl, rfl⟩) (by assumption) ?_
              try simp only [Act.put, List.setIfInBounds_toArray, List.set_cons_zero, List.set_cons_succ]
              refine wpAnyH_take (i := 5) (oi := ⟨some 122, _, _, _, _, _⟩) (v := undef) rfl (by kernel_rfl) (by kernel_rfl) (by kernel_rfl) (fun _ _ _ h => h) (Or.inr ⟨by kernel_rfl, rfl⟩) (by assumption) ?_
              try simp only [Act.put, List.setIfInBounds_toArray, List.set_cons_zero, List.set_cons_succ]
              refine wpAnyH_take (i := 6) (oi := ⟨some 123, _, _, _, _, _⟩) (v := undef) rfl (by kernel_rfl) (by kernel_rfl) (by kernel_rfl) (fun _ _ _ h => h) (Or.inr ⟨by kernel_rfl, rfl⟩) (by assumption) ?_
              try simp only [Act.put, List.setIfInBounds_toArray, List.set_cons_zero, List.set_cons_succ]
              refine wpAnyH_take (i := 7) (oi := ⟨some 124, _, _, _, _, _⟩) (v := undef) rfl (by kernel_rfl) (by kernel_rfl) (by kernel_rfl) (fun _ _ _ h => h) (Or.inr ⟨by kernel_rfl, rfl⟩) (by assumption) ?_
              try simp only [Act.put, List.setIfInBounds_toArray, List.set_cons_zero, List.set_cons_succ]
              refine wpAnyH_take (i := 8) (oi := ⟨some 125, _, _, _, _, _⟩) (v := undef) rfl (by kernel_rfl) (by kernel_rfl) (by kernel_rfl) (fun _ _ _ h => h) (Or.inr ⟨by kernel_rfl, rfl⟩) (by assumption) ?_
              try simp only [Act.put, List.setIfInBounds_toArray, List.set_cons_zero, List.set_cons_succ]
              refine wpAnyH_take (i := 9) (oi := ⟨some 126, _, _, _, _, _⟩) (v := undef) rfl (by kernel_rfl) (by kernel_rfl) (by kernel_rfl) (fun _ _ _ h => h) (Or.inr ⟨by kernel_rfl, rfl⟩) (by assumption) ?_
              try simp only [Act.put, List.setIfInBounds_toArray, List.set_cons_zero, List.set_cons_succ]
              refine wpAnyH_take (i := 10) (oi := ⟨some 127, _, _, _, _, _⟩) (v := undef) rfl (by kernel_rfl) (by kernel_rfl) (by kernel_rfl) (fun _ _ _ h => h) (Or.inr ⟨by kernel_rfl, rfl⟩) (by assumption) ?_
              try simp only [Act.put, List.setIfInBounds_toArray, List.set_cons_zero, List.set_cons_succ]
              refine wpAnyH_take (i := 11) (oi := ⟨some 128, _, _, _, _, _⟩) (v := undef) rfl (by kernel_rfl) (by kernel_rfl) (by kernel_rfl) (fun _ _ _ h => h) (Or.inr ⟨by kernel_rfl, rfl⟩) (by assumption) ?_
              try simp only [Act.put, List.setIfInBounds_toArray, List.set_cons_zero, List.set_cons_succ]
              refine wpAnyH_take (i := 12) (oi := ⟨some 129, _, _, _, _, _⟩) (v := undef) rfl (by kernel_rfl) (by kernel_rfl) (by kernel_rfl) (fun _ _ _ h => h) (Or.inr ⟨by kernel_rfl, rfl⟩) (by assumption) ?_
              try simp only [Act.put, List.setIfInBounds_toArray, List.set_cons_zero, List.set_cons_succ]
              refine wpAnyH_take (i := 13) (oi := ⟨some 130, _, _, _, _, _⟩) (v := undef) rfl (by kernel_rfl) (by kernel_rfl) (by kernel_rfl) (fun _ _ _ h => h) (Or.inr ⟨by kernel_rfl, rfl⟩) (by assumption) ?_
              try simp only [Act.put, List.setIfInBounds_toArray, List.set_cons_zero, List.set_cons_succ]
              refine wpAnyH_take (i := 14) (oi := ⟨some 131, _, _, _, _, _⟩) (v := ?_) rfl (by kernel_rfl) (by kernel_rfl) (by kernel_rfl) (fun _ _ _ h => h) (Or.inl ⟨by kernel_rfl, ?_⟩) (by assumption) ?_
              rotate_left
              · (intro w hSw; (try dsimp only at hSw); go_simp; try (with_reducible rfl))
              try simp only [Act.put, List.setIfInBounds_toArray, List.set_cons_zero, List.set_cons_succ]
              refine wpAnyH_done (by kernel_rfl) ?_ _
              repeat clear hHeld
              have L5 := Lib.hid (LW.out.trans (B5.out.mono LW.out.size))
              have Z4 := Lib.hid (V4.out.below B5.out V4.out.lt)
              go_wp2_with (refine wpl_store_optM (o := OD.new 0 []) (A := none) (n := 0) (c := 0) rfl (by rfl) (by rfl) (by rfl) Z4.out rfl ?_)
              refine bodyPost_ret (results_opt2 rfl (by rfl) (by rfl) (Bx.setCells (vs := voC (OD.new 0 []) (.slice none 0 0)) Z4.out rfl)) rfl ?_
              rw [HN.out]
              exact read_no L5.out (Nat.le_refl _)
            · have d0 : (R1.toList.isEmpty) = false := by rw [ByteArray.toList_eq]; cases e : R1.data.toList with | nil => exact absurd e c0 | cons => rfl
              have d0b : (R1.toList == []) = false := by rw [ByteArray.toList_eq]; cases e : R1.data.toList with | nil => exact absurd e c0 | cons => rfl
              clear c0
              refine wpAnyH_take (i := 2) (oi := ⟨some 119, _, _, _, _, _⟩) (v := ?_) rfl (by kernel_rfl) (by kernel_rfl) (by kernel_rfl) (fun _ _ _ h => h) (Or.inl ⟨by kernel_rfl, ?_⟩) (by assumption) ?_
              rotate_left
              · (intro w hSw; (try dsimp only at hSw); go_simp; try (with_reducible rfl))
              try simp only [Act.put, List.setIfInBounds_toArray, List.set_cons_zero, List.set_cons_succ]
              refine wpAnyH_take (i := 3) (oi := ⟨some 120, _, _, _, _, _⟩) (v := ?_) rfl (by kernel_rfl) (by kernel_rfl) (by kernel_rfl) (fun _ _ _ h => h) (Or.inl ⟨by kernel_rfl, ?_⟩) (by assumption) ?_
              rotate_left
              · (intro w hSw; (try dsimp only at hSw); go_simp; try (with_reducible rfl))
              try simp only [Act.put, List.setIfInBounds_toArray, List.set_cons_zero, List.set_cons_succ]
              have O5 := Lib.hid (OV.out.below B5.out)
              refine wpAnyH_take (i := 4) (oi := ⟨some 121, _, _, _, _, _⟩) rfl (by kernel_rfl) (by kernel_rfl) (by kernel_rfl) (fun _ _ _ h => h) (yields_opt (by kernel_rfl) rfl (by rfl) (fun w h => h.1)) (by assumption) ?_
              try simp only [Act.put, List.setIfInBounds_toArray, List.set_cons_zero, List.set_cons_succ]
              refine wpAnyH_take (i := 6) (oi := ⟨some 123, _, _, _, _, _⟩) (v := ?_) rfl (by kernel_rfl) (by kernel_rfl) (by kernel_rfl) (fun _ _ _ h => h) (Or.inl ⟨by kernel_rfl, ?_⟩) (by assumption) ?_
              rotate_left
              · (intro w hSw; (try dsimp only at hSw); go_simp; try (with_reducible rfl))
              try simp only [Act.put, List.setIfInBounds_toArray, List.set_cons_zero, List.set_cons_succ]
              refine wpAnyH_take (i := 7) (oi := ⟨some 124, _, _, _, _, _⟩) (v := ?_) rfl (by kernel_rfl) (by kernel_rfl) (by kernel_rfl) (fun _ _ _ h => h) (Or.inl ⟨by kernel_rfl, ?_⟩) (by assumption) ?_
              rotate_left
              · (intro w hSw; (try dsimp only at hSw); go_simp; try (with_reducible rfl))
              try simp only [Act.put, List.setIfInBounds_toArray, List.set_cons_zero, List.set_cons_succ]
              refine wpAnyH_take (i := 8) (oi := ⟨some 125, _, _, _, _, _⟩) (v := ?_) rfl (by kernel_rfl) (by kernel_rfl) (by kernel_rfl) (fun _ _ _ h => h) (Or.inl ⟨by kernel_rfl, ?_⟩) (by assumption) ?_
              rotate_left
              · (intro w hSw; (try dsimp only at hSw); go_simp; try (with_reducible rfl))
              try simp only [Act.put, List.setIfInBounds_toArray, List.set_cons_zero, List.set_cons_succ]
              refine wpAnyH_take (i := 9) (oi := ⟨some 126, _, _, _, _, _⟩) (v := ?_) rfl (by kernel_rfl) (by kernel_rfl) (by kernel_rfl) (fun _ _ _ h => h) (Or.inl ⟨by kernel_rfl, ?_⟩) (by assumption) ?_
              rotate_left
              · (intro w hSw; (try dsimp only at hSw); go_simp; try (with_reducible rfl))
              try simp only [Act.put, List.setIfInBounds_toArray, List.set_cons_zero, List.set_cons_succ]
              refine wpAnyH_take (i := 10) (oi := ⟨some 127, _, _, _, _, _⟩) (v := ?_) rfl (by kernel_rfl) (by kernel_rfl) (by kernel_rfl) (fun _ _ _ h => h) (Or.inl ⟨by kernel_rfl, ?_⟩) (by assumption) ?_
              rotate_left
              · (intro w hSw; (try dsimp only at hSw); go_simp; try (with_reducible rfl))
              try simp only [Act.put, List.setIfInBounds_toArray, List.set_cons_zero, List.set_cons_succ]
              refine wpAnyH_take (i := 11) (oi := ⟨some 128, _, _, _, _, _⟩) (v := ?_) rfl (by kernel_rfl) (by kernel_rfl) (by kernel_rfl) (fun _ _ _ h => h) (Or.inl ⟨by kernel_rfl, ?_⟩) (by assumption) ?_
              rotate_left
              · (intro w hSw; (try dsimp only at hSw); go_simp; try (with_reducible rfl))
              try simp only [Act.put, List.setIfInBounds_toArray, List.set_cons_zero, List.set_cons_succ]
              refine wpAnyH_take (i := 12) (oi := ⟨some 129, _, _, _, _, _⟩) (v := ?_) rfl (by kernel_rfl) (by kernel_rfl) (by kernel_rfl) (fun _ _ _ h => h) (Or.inl ⟨by kernel_rfl, ?_⟩) (by assumption) ?_
              rotate_left
              · (intro w hSw; (try dsimp only at hSw); go_simp; try (with_reducible rfl))
              try simp only [Act.put, List.setIfInBounds_toArray, List.set_cons_zero, List.set_cons_succ]
              refine wpAnyH_ready (rs := [5]) (by kernel_rfl) (by simp) ?_
              refine AllReadyH.cons (o := ⟨some 122, _, _, _, _, _⟩) rfl (fun K hK => ?_) AllReadyH.nil
              go_simp
              (go_at_call 37; refine (optText_s u Av nv cv _ O5.out.rd HU.out).mono ?_; rw [← HR1.out]; rintro e w6 ⟨rfl, hb6⟩)
              try go_wp2_with fail
              refine hK.out _ _ ?_ (fun hHeld => ?_)
              · exact ⟨((Bx.of_blk V3.out).below B5.out).below hb6, B5.out.trans (hb6.mono B5.out.size)⟩
              clear hK K
              try simp only [Act.put, List.setIfInBounds_toArray, List.set_cons_zero, List.set_cons_succ]
              have B6 := Lib.hid (B5.out.trans (hb6.mono B5.out.size))
              clear hb6
              have L5 := Lib.hid (LW.out.trans (B6.out.mono LW.out.size))
              have Z3 := Lib.hid (V3.out.below B6.out V3.out.lt)
              have Z4 := Lib.hid (V4.out.below B6.out V4.out.lt)
              have O6 := Lib.hid (OV.out.below B6.out)
              clear B5 O5 B6
              by_cases ce : R1.data.toList = T.data.toList
              · have d1 : (R1.toList == T.toList) = true := by rw [ByteArray.toList_eq, ByteArray.toList_eq]; simp [ce]
                have HY : Hid (r = some u) := Lib.hid (by rw [HO.out, if_pos]; rw [HT2.out, ← ce, HR1.out, str_toList])
                clear ce
                refine wpAnyH_take (i := 13) (oi := ⟨some 130, _, _, _, _, _⟩) (v := ?_) rfl (by kernel_rfl) (by kernel_rfl) (by kernel_rfl) (fun _ _ _ h => h) (Or.inl ⟨by kernel_rfl, ?_⟩) (by assumption) ?_
                rotate_left
                · (intro w hSw; (try dsimp only at hSw); go_simp; try (with_reducible rfl))
                try simp only [Act.put, List.setIfInBounds_toArray, List.set_cons_zero, List.set_cons_succ]
                refine wpAnyH_take (i := 14) (oi := ⟨some 131, _, _, _, _, _⟩) (v := ?_) rfl (by kernel_rfl) (by kernel_rfl) (by kernel_rfl) (fun _ _ _ h => h) (Or.inl ⟨by kernel_rfl, ?_⟩) (by assumption) ?_
                rotate_left
                · (intro w hSw; (try dsimp only at hSw); go_simp; try (with_reducible rfl))
                try simp only [Act.put, List.setIfInBounds_toArray, List.set_cons_zero, List.set_cons_succ]
                refine wpAnyH_done (by kernel_rfl) ?_ _
                repeat clear hHeld
                go_wp2_with (first | (refine wpl_opt (o := u) rfl (by rfl) (by rfl) (Bx.of_blk Z3.out) ?_) | (refine wpl_store_optM (o := u) rfl (by rfl) (by rfl) (by rfl) Z4.out rfl ?_))
                refine bodyPost_ret (results_opt2 rfl (by rfl) (by rfl) (Bx.setCells (vs := voC u (.slice Av nv cv)) Z4.out rfl)) rfl ?_
                rw [HY.out]
                refine ⟨.slice Av nv cv, by rw [HA2'.out]; rfl, ?_, HU.out, Below.setCells' L5.out (Nat.le_refl _) _ _⟩
                have e9 := HNU.out
                rw [← e9]
                exact ((O6.out.farS (by omega) _ _).mono (by omega))
              · have d1 : (R1.toList == T.toList) = false := by rw [ByteArray.toList_eq, ByteArray.toList_eq]; exact beq_eq_false_iff_ne.2 ce
                have HN : Hid (r = none) := Lib.hid (by rw [HO.out, if_neg]; rw [HT2.out]; intro e; exact ce (by rw [← e, HR1.out, str_toList]))
                clear ce
                refine wpAnyH_take (i := 13) (oi := ⟨some 130, _, _, _, _, _⟩) (v := ?_) rfl (by kernel_rfl) (by kernel_rfl) (by kernel_rfl) (fun _ _ _ h => h) (Or.inl ⟨by kernel_rfl, ?_⟩) (by assumption) ?_
                rotate_left
                · (intro w hSw; (try dsimp only at hSw); go_simp; try (with_reducible rfl))
                try simp only [Act.put, List.setIfInBounds_toArray, List.set_cons_zero, List.set_cons_succ]
                refine wpAnyH_take (i := 14) (oi := ⟨some 131, _, _, _, _, _⟩) (v := ?_) rfl (by kernel_rfl) (by kernel_rfl) (by kernel_rfl) (fun _ _ _ h => h) (Or.inl ⟨by kernel_rfl, ?_⟩) (by assumption) ?_
                rotate_left
                · (intro w hSw; (try dsimp only at hSw); go_simp; try (with_reducible rfl))
                try simp only [Act.put, List.setIfInBounds_toArray, List.set_cons_zero, List.set_cons_succ]
                refine wpAnyH_done (by kernel_rfl) ?_ _
                repeat clear hHeld
                go_wp2_with (refine wpl_store_optM (o := OD.new 0 []) (A := none) (n := 0) (c := 0) rfl (by rfl) (by rfl) (by rfl) Z4.out rfl ?_)
                refine bodyPost_ret (results_opt2 rfl (by rfl) (by rfl) (Bx.setCells (vs := voC (OD.new 0 []) (.slice none 0 0)) Z4.out rfl)) rfl ?_
                rw [HN.out]
                exact read_no L5.out (Nat.le_refl _)
        obtain ⟨h8, hkt⟩ := hlt
        have HK8 := Lib.hid h8
        have q4 : ((K : Int) == 8) = true := by rw [h8]; rfl
        have hx := t[k].toNat_lt
        obtain ⟨x, hxx⟩ : ∃ x, x = t[k].toNat := ⟨_, rfl⟩
        have e1 : t[k].toNat = x := hxx.symm
        have h88 := HI8.out h8
        have HST : Hid ((t.data.toList.take (k + 1)).map (fun c => (c.toNat : Int)) = I ++ [(x : Int)]) := Lib.hid (by
          rw [take_succ_bytes t k hkt, List.map_append, h88.2, hxx]; rfl)
        have hnl : nv ≤ 300 := HNL.out
        have x13 : wr.cell? ⟨b3, 13, none⟩ = some (.slice Av nv cv) := V3.out.cell 13
        have f13 := V3.out.frozen 13
        have htk : (k : Int) < (t.size : Int) := by omega
        have wx : IntKind.i64.wrap (x : Int) = (x : Int) := IntWalk.i64_in _ (by omega)
        clear hxx h88 hx h8
        go_wp2_with fail
        have x13b : (wr.alloc (.cells #[.int .i64 (x : Int)] 3)).cell? ⟨b3, 13, none⟩ = some (.slice Av nv cv) := (V3.out.alloc _).cell 13
        refine wp_region_any (by kernel_rfl) ?_
        try (change wpAny _ _ _ _ _ _ _ (World.drew _))
        refine wpAny_take (i := 0) (oi := ⟨some 108, _, _, _, _, _⟩) (v := ?_) rfl (by kernel_rfl) (by kernel_rfl) (by kernel_rfl) (fun _ _ _ h => h) (Or.inl ⟨by rfl, ?_⟩) ?_
        rotate_left
        · (intro w; go_simp; try (with_reducible rfl))
        try simp only [Act.put, List.setIfInBounds_toArray, List.set_cons_zero, List.set_cons_succ]
        refine wpAny_take (i := 2) (oi := ⟨some 110, _, _, _, _, _⟩) (v := ?_) rfl (by kernel_rfl) (by kernel_rfl) (by kernel_rfl) (fun _ _ _ h => h) (Or.inl ⟨by rfl, ?_⟩) ?_
        rotate_left
        · (intro w; go_simp; try (with_reducible rfl))
        try simp only [Act.put, List.setIfInBounds_toArray, List.set_cons_zero, List.set_cons_succ]
        refine wpAny_take (i := 3) (oi := ⟨some 111, _, _, _, _, _⟩) (v := ?_) rfl (by kernel_rfl) (by kernel_rfl) (by kernel_rfl) (fun _ _ _ h => h) (Or.inl ⟨by rfl, ?_⟩) ?_
        rotate_left
        · (intro w; go_simp; try (with_reducible rfl))
        try simp only [Act.put, List.setIfInBounds_toArray, List.set_cons_zero, List.set_cons_succ]
        refine wpAny_take (i := 4) (oi := ⟨some 112, _, _, _, _, _⟩) (v := ?_) rfl (by kernel_rfl) (by kernel_rfl) (by kernel_rfl) (fun _ _ _ h => h) (Or.inl ⟨by rfl, ?_⟩) ?_
        rotate_left
        · (intro w; go_simp; try (with_reducible rfl))
        try simp only [Act.put, List.setIfInBounds_toArray, List.set_cons_zero, List.set_cons_succ]
        refine wpAny_take (i := 5) (oi := ⟨some 113, _, _, _, _, _⟩) (v := ?_) rfl (by kernel_rfl) (by kernel_rfl) (by kernel_rfl) (fun _ _ _ h => h) (Or.inl ⟨by rfl, ?_⟩) ?_
        rotate_left
        · (intro w; go_simp; try (with_reducible rfl))
        try simp only [Act.put, List.setIfInBounds_toArray, List.set_cons_zero, List.set_cons_succ]
        refine wpAny_ready (rs := [1, 6]) (by kernel_rfl) (by simp) ?_
        refine AllReady.cons (o := ⟨some 109, _, _, _, _, _⟩) rfl (fun K hK => ?_) (AllReady.cons (o := ⟨some 114, _, _, _, _, _⟩) rfl (fun K hK => ?_) AllReady.nil)
        · go_simp
          refine hK _ _ ?_; clear hK K
          try simp only [Act.put, List.setIfInBounds_toArray, List.set_cons_zero, List.set_cons_succ]
          refine wpAny_ready (rs := [6]) (by kernel_rfl) (by simp) ?_
          refine AllReady.cons (o := ⟨some 114, _, _, _, _, _⟩) rfl (fun K hK => ?_) AllReady.nil
          go_simp
          refine hK _ _ ?_; clear hK K
          try simp only [Act.put, List.setIfInBounds_toArray, List.set_cons_zero, List.set_cons_succ]
          refine wpAny_ready (rs := [7]) (by kernel_rfl) (by simp) ?_
          refine AllReady.cons (o := ⟨some 115, _, _, _, _, _⟩) rfl (fun K hK => ?_) AllReady.nil
          rw [if_pos (by kernel_rfl)]
          refine wp_append_obs2 _ _ _ 22 (by rfl) (b3 + 1) 3 i0 (.int .i64 0) 1 8 Try.underlying22 hi hz0 hz1 hz2 rfl (by decide) _ nv _ (by rfl) (OV.out.alloc _).drew (b3 + 1) _ 1 _ (by rfl) (obs_one wr 3 (.int .i64 (x : Int)) (b3 + 1) HB.out).drew (by intro u hu; obtain rfl := List.mem_singleton.1 hu; rfl) (by unfold maxLen; omega) (by omega) (by have := HB.out; simp; omega) (fun v7 w7 ho7 hb7 hg7 => ?_)
          have H7 : Hid (Blk w7 b3 27 (voC v (.slice Av nv cv))) := Lib.hid ((V3.out.alloc _).drew.below hb7 (by omega))
          have H4 : Hid (Blk w7 w.heap.size 27 (voC (OD.new 0 []) (.slice none 0 0))) := Lib.hid ((V4.out.alloc _).drew.below hb7 (by omega))
          have L7 := Lib.hid ((LW.out.alloc LW.out.size _).drew.trans (hb7.mono (by omega)))
          have O7 : Hid (Obs w7 (b3 + 1) 1 v7 (nv + 1) (((t.data.toList.take (k + 1)).map fun c => (c.toNat : Int)).map vn)) := Lib.hid (by rw [HST.out, List.map_append]; exact ho7)
          have S7 : Hid (b3 + 1 ≤ w7.heap.size) := Lib.hid (Nat.le_trans HB.out (Nat.le_trans (Nat.le_of_lt (by show wr.heap.size < (wr.alloc _).heap.size; simp)) hb7.size))
          obtain ⟨A7, c7, rfl⟩ := O7.out.shape
          clear ho7 hb7 hg7 x13 f13 x13b
          have x13 : w7.cell? ⟨b3, 13, none⟩ = some (.slice Av nv cv) := H7.out.cell 13
          have f13 := H7.out.frozen 13
          refine hK _ _ ?_; clear hK K
          try simp only [Act.put, List.setIfInBounds_toArray, List.set_cons_zero, List.set_cons_succ]
          refine wpAny_ready (rs := [8]) (by kernel_rfl) (by simp) ?_
          refine AllReady.cons (o := ⟨some 116, _, _, _, _, _⟩) rfl (fun K hK => ?_) AllReady.nil
          go_simp
          refine hK _ _ ?_; clear hK K
          try simp only [Act.put, List.setIfInBounds_toArray, List.set_cons_zero, List.set_cons_succ]
          refine wpAny_ready (rs := [9]) (by kernel_rfl) (by simp) ?_
          refine AllReady.cons (o := ⟨none, _, _, _, _, _⟩) rfl (fun K hK => ?_) AllReady.nil
          go_simp
          refine hK _ _ ?_; clear hK K
          try simp only [Act.put, List.setIfInBounds_toArray, List.set_cons_zero, List.set_cons_succ]
          refine wpAny_done (by kernel_rfl) ?_ _
          have V7 : Hid (Blk (w7.setCell ⟨b3, 13, none⟩ (.slice A7 (nv + 1) c7)) b3 27 (voC v (.slice A7 (nv + 1) c7))) := Lib.hid (H7.out.set_ 13 _)
          have V4' := Lib.hid (H4.out.far (p := ⟨b3, 13, none⟩) (by dsimp only; omega) (.slice A7 (nv + 1) c7))
          have L8 := Lib.hid (L7.out.setCell (p := ⟨b3, 13, none⟩) (by dsimp only; omega) (.slice A7 (nv + 1) c7))
          have O8 := Lib.hid (O7.out.far (p := ⟨b3, 13, none⟩) (by dsimp only; omega) (.slice A7 (nv + 1) c7))
          have S8 : Hid (b3 + 1 ≤ (w7.setCell ⟨b3, 13, none⟩ (.slice A7 (nv + 1) c7)).heap.size) := Lib.hid (by simp [World.setCell]; exact S7.out)
          have HL9 : Hid (nv + 1 = ((t.data.toList.take (k + 1)).map fun c => (c.toNat : Int)).length) := Lib.hid (by rw [HST.out, List.length_append, ← HNV.out]; rfl)
          have HL8 : Hid (nv + 1 ≤ 300) := Lib.hid (by rw [HL9.out]; simp; omega)
          clear x13 f13
          go_wp2
          go_roundw
          case rel => exact ⟨k + 1, nv + 1, c7, A7, _, by go_num, Lib.hid (by omega), Lib.hid (fun _ => ⟨by omega, rfl⟩), Lib.hid (fun h => absurd HK8.out h), HL9, HL8, O8, V7, V4', L8, S8⟩
          case measure => (simp [intOf]; try omega)
        · go_simp
          refine hK _ _ ?_; clear hK K
          try simp only [Act.put, List.setIfInBounds_toArray, List.set_cons_zero, List.set_cons_succ]
          refine wpAny_ready (rs := [1]) (by kernel_rfl) (by simp) ?_
          refine AllReady.cons (o := ⟨some 109, _, _, _, _, _⟩) rfl (fun K hK => ?_) AllReady.nil
          go_simp
          refine hK _ _ ?_; clear hK K
          try simp only [Act.put, List.setIfInBounds_toArray, List.set_cons_zero, List.set_cons_succ]
          refine wpAny_ready (rs := [7]) (by kernel_rfl) (by simp) ?_
          refine AllReady.cons (o := ⟨some 115, _, _, _, _, _⟩) rfl (fun K hK => ?_) AllReady.nil
          rw [if_pos (by kernel_rfl)]
          refine wp_append_obs2 _ _ _ 22 (by rfl) (b3 + 1) 3 i0 (.int .i64 0) 1 8 Try.underlying22 hi hz0 hz1 hz2 rfl (by decide) _ nv _ (by rfl) (OV.out.alloc _).drew (b3 + 1) _ 1 _ (by rfl) (obs_one wr 3 (.int .i64 (x : Int)) (b3 + 1) HB.out).drew (by intro u hu; obtain rfl := List.mem_singleton.1 hu; rfl) (by unfold maxLen; omega) (by omega) (by have := HB.out; simp; omega) (fun v7 w7 ho7 hb7 hg7 => ?_)
          have H7 : Hid (Blk w7 b3 27 (voC v (.slice Av nv cv))) := Lib.hid ((V3.out.alloc _).drew.below hb7 (by omega))
          have H4 : Hid (Blk w7 w.heap.size 27 (voC (OD.new 0 []) (.slice none 0 0))) := Lib.hid ((V4.out.alloc _).drew.below hb7 (by omega))
          have L7 := Lib.hid ((LW.out.alloc LW.out.size _).drew.trans (hb7.mono (by omega)))
          have O7 : Hid (Obs w7 (b3 + 1) 1 v7 (nv + 1) (((t.data.toList.take (k + 1)).map fun c => (c.toNat : Int)).map vn)) := Lib.hid (by rw [HST.out, List.map_append]; exact ho7)
          have S7 : Hid (b3 + 1 ≤ w7.heap.size) := Lib.hid (Nat.le_trans HB.out (Nat.le_trans (Nat.le_of_lt (by show wr.heap.size < (wr.alloc _).heap.size; simp)) hb7.size))
          obtain ⟨A7, c7, rfl⟩ := O7.out.shape
          clear ho7 hb7 hg7 x13 f13 x13b
          have x13 : w7.cell? ⟨b3, 13, none⟩ = some (.slice Av nv cv) := H7.out.cell 13
          have f13 := H7.out.frozen 13
          refine hK _ _ ?_; clear hK K
          try simp only [Act.put, List.setIfInBounds_toArray, List.set_cons_zero, List.set_cons_succ]
          refine wpAny_ready (rs := [8]) (by kernel_rfl) (by simp) ?_
          refine AllReady.cons (o := ⟨some 116, _, _, _, _, _⟩) rfl (fun K hK => ?_) AllReady.nil
          go_simp
          refine hK _ _ ?_; clear hK K
          try simp only [Act.put, List.setIfInBounds_toArray, List.set_cons_zero, List.set_cons_succ]
          refine wpAny_ready (rs := [9]) (by kernel_rfl) (by simp) ?_
          refine AllReady.cons (o := ⟨none, _, _, _, _, _⟩) rfl (fun K hK => ?_) AllReady.nil
          go_simp
          refine hK _ _ ?_; clear hK K
          try simp only [Act.put, List.setIfInBounds_toArray, List.set_cons_zero, List.set_cons_succ]
          refine wpAny_done (by kernel_rfl) ?_ _
          have V7 : Hid (Blk (w7.setCell ⟨b3, 13, none⟩ (.slice A7 (nv + 1) c7)) b3 27 (voC v (.slice A7 (nv + 1) c7))) := Lib.hid (H7.out.set_ 13 _)
          have V4' := Lib.hid (H4.out.far (p := ⟨b3, 13, none⟩) (by dsimp only; omega) (.slice A7 (nv + 1) c7))
          have L8 := Lib.hid (L7.out.setCell (p := ⟨b3, 13, none⟩) (by dsimp only; omega) (.slice A7 (nv + 1) c7))
          have O8 := Lib.hid (O7.out.far (p := ⟨b3, 13, none⟩) (by dsimp only; omega) (.slice A7 (nv + 1) c7))
          have S8 : Hid (b3 + 1 ≤ (w7.setCell ⟨b3, 13, none⟩ (.slice A7 (nv + 1) c7)).heap.size) := Lib.hid (by simp [World.setCell]; exact S7.out)
          have HL9 : Hid (nv + 1 = ((t.data.toList.take (k + 1)).map fun c => (c.toNat : Int)).length) := Lib.hid (by rw [HST.out, List.length_append, ← HNV.out]; rfl)
          have HL8 : Hid (nv + 1 ≤ 300) := Lib.hid (by rw [HL9.out]; simp; omega)
          clear x13 f13
          go_wp2
          go_roundw
          case rel => exact ⟨k + 1, nv + 1, c7, A7, _, by go_num, Lib.hid (by omega), Lib.hid (fun _ => ⟨by omega, rfl⟩), Lib.hid (fun h => absurd HK8.out h), HL9, HL8, O8, V7, V4', L8, S8⟩
          case measure => (simp [intOf]; try omega)
    have q1 : (((j * 2 : Nat) : Int) + 1 < (S.size : Int)) := by have := HSS.out; omega
    have hfl : j < (lay (K : Int)).length := by have := HMM2.out; omega
    obtain ⟨i1, i12, m1, m20⟩ := lay_at hfl
    obtain ⟨h1, h2, e1, e2⟩ := shp_at hfl
    have hwd := lay_w hfl
    have hdrop : (lay (K : Int)).drop j = (lay (K : Int))[j]'hfl :: (lay (K : Int)).drop (j + 1) := List.drop_eq_getElem_cons hfl
    obtain ⟨⟨i, m2⟩, hf⟩ : ∃ f, f = (lay (K : Int))[j]'hfl := ⟨_, rfl⟩
    rw [← hf] at i1 i12 m1 m20 e1 e2 hwd hdrop
    dsimp only at i1 i12 m1 m20 e1 e2 hwd
    have HDR := Lib.hid hdrop
    obtain ⟨p, hp⟩ : ∃ p, p = j * 2 := ⟨_, rfl⟩
    have HP := Lib.hid hp
    have hp8 : p ≤ 8 := by omega
    have hpb : p < S.size := by have := HSS.out; omega
    have hpb1 : p + 1 < S.size := by have := HSS.out; omega
    have e3 : S[p]'hpb = ltr i := by
      have h3 := HSP.out
      subst h3; subst hp
      exact e1
    have e4 : S[p + 1]'hpb1 = wsg m2 := by
      have h3 := HSP.out
      subst h3; subst hp
      exact e2
    have hpx : ((p : Int) + 1).toNat < S.size := by omega
    have e4' : S[((p : Int) + 1).toNat]'hpx = wsg m2 := by
      have : ((p : Int) + 1).toNat = p + 1 := by omega
      simp only [this]
      exact e4
    have wp1 : IntKind.i64.wrap ((p : Int) + 1) = (p : Int) + 1 := IntWalk.i64_in _ (by omega)
    have gp0 : (0 : Int) ≤ (p : Int) + 1 := by omega
    rw [← hp] at q1 ⊢
    have HWD := Lib.hid hwd
    clear hf hfl hdrop e1 e2 h1 h2 hwd hp
    go_wp2_with fail
    refine (wide_s m2 _ HWD.out).mono ?_
    rintro e w6 ⟨rfl, rfl⟩
    obtain ⟨q, hq⟩ : ∃ q, q = textAtS t (pos : Int) (m2 : Int) := ⟨_, rfl⟩
    have hqs : q.size ≤ m2 := by rw [hq]; exact textAtS_size t _ _ m2 rfl
    have htm : t.size ≤ 9223372036854775807 := by omega
    go_wp2_with fail
    refine (textAt_s t (pos : Int) (m2 : Int) _ htm).mono ?_
    rw [← hq]
    rintro e w6 ⟨rfl, rfl⟩
    cases bt : textAtB t (pos : Int) (m2 : Int)
    case false =>
      have HN : Hid (r = none) := Lib.hid (by
        have hst : decF (fun n => n != 0) t (lay (K : Int)) 0 (startO (K : Int) t) = none := by
          by_cases h8 : K = 8
          · subst h8
            have := HDR.out
            have h9 : (lay ((8 : Nat) : Int)).drop j = [] := by rw [show lay ((8 : Nat) : Int) = [] from rfl]; exact List.drop_nil
            rw [h9] at this
            cases this
          · rw [show startO (K : Int) t = OD.new (K : Int) [] by unfold startO; rw [if_neg (by omega)], HD0.out, HDR.out]
            unfold decF
            dsimp only
            rw [bt]
            rfl
        rw [HRR.out, hst])
      clear bt hq
      go_wp2_with (refine wpl_store_optM (o := OD.new 0 []) (A := none) (n := 0) (c := 0) rfl (by rfl) (by rfl) (by rfl) V4.out rfl ?_)
      refine bodyPost_ret (results_opt2 rfl (by rfl) (by rfl) (Bx.setCells (vs := voC (OD.new 0 []) (.slice none 0 0)) V4.out rfl)) rfl ?_
      rw [HN.out]
      exact read_no LW.out (Nat.le_refl _)
    obtain ⟨N, hN⟩ : ∃ N, N = numAtN q 0 (m2 : Int) := ⟨_, rfl⟩
    have hNl : N < 281474976710656 := by rw [hN]; exact numAtN_lt q _ _
    obtain ⟨u, hu⟩ : ∃ u, u = v.put i (N : Int) (N != 0) q := ⟨_, rfl⟩
    have HD2 : Hid (decF (fun n => n != 0) t (lay (K : Int)) 0 (OD.new (K : Int) []) = decF (fun n => n != 0) t ((lay (K : Int)).drop (j + 1)) (pos + m2) u) := Lib.hid (by
      rw [HD0.out, HDR.out]
      conv => lhs; unfold decF
      dsimp only
      rw [bt, if_pos rfl, ← hq, ← hN, hu])
    have HV2 : Hid (u.wf) := Lib.hid (by rw [hu]; exact wf_put HV.out i (i64R_nat (by omega)) (by unfold maxLen; omega))
    have HI2 : Hid (u.ids = []) := Lib.hid (by rw [hu, put_ids]; exact HI.out)
    have HNN := Lib.hid hN
    have HU := Lib.hid hu
    clear bt hq hN hu HD0 HDR
    go_wp2_with fail
    refine (numAt_s q 0 (m2 : Int) _ (by omega)).mono ?_
    obtain ⟨nb, hnb⟩ : ∃ nb, nb = numAtB q 0 (m2 : Int) := ⟨_, rfl⟩
    rw [← HNN.out, ← hnb]
    clear hnb
    rintro e W5 ⟨rfl, hb⟩
    have Y3 := Lib.hid (V3.out.below hb V3.out.lt)
    have Y4 := Lib.hid (V4.out.below hb V4.out.lt)
    have LY := Lib.hid (LW.out.trans (hb.mono LW.out.size))
    have YB := Lib.hid (Nat.le_trans HB.out hb.size)
    clear hb V3 V4 LW HB
    go_wp2_with fail
    refine wp_region_any (by kernel_rfl) ?_
    try (change wpAny _ _ _ _ _ _ _ (World.drew _))
    refine wpAny_take (i := 1) (oi := ⟨some 89, _, _, _, _, _⟩) (v := ?_) rfl (by kernel_rfl) (by kernel_rfl) (by kernel_rfl) (fun _ _ _ h => h) (Or.inl ⟨by rfl, ?_⟩) ?_
    rotate_left
    · (intro w; go_simp; try (with_reducible rfl))
    refine wpAny_take (i := 2) (oi := ⟨some 90, _, _, _, _, _⟩) (v := ?_) rfl (by kernel_rfl) (by kernel_rfl) (by kernel_rfl) (fun _ _ _ h => h) (Or.inl ⟨by rfl, ?_⟩) ?_
    rotate_left
    · (intro w; go_simp; try (with_reducible rfl))
    refine wpAny_take (i := 3) (oi := ⟨some 91, _, _, _, _, _⟩) (v := ?_) rfl (by kernel_rfl) (by kernel_rfl) (by kernel_rfl) (fun _ _ _ h => h) (Or.inl ⟨by rfl, ?_⟩) ?_
    rotate_left
    · (intro w; go_simp; try (with_reducible rfl))
    refine wpAny_take (i := 4) (oi := ⟨some 92, _, _, _, _, _⟩) (v := ?_) rfl (by kernel_rfl) (by kernel_rfl) (by kernel_rfl) (fun _ _ _ h => h) (Or.inl ⟨by rfl, ?_⟩) ?_
    rotate_left
    · (intro w; go_simp; try (with_reducible rfl))
    refine wpAny_take (i := 5) (oi := ⟨some 93, _, _, _, _, _⟩) (v := ?_) rfl (by kernel_rfl) (by kernel_rfl) (by kernel_rfl) (fun _ _ _ h => h) (Or.inl ⟨by rfl, ?_⟩) ?_
    rotate_left
    · (intro w; go_simp; try (with_reducible rfl))
    try simp only [Act.put, List.setIfInBounds_toArray, List.set_cons_zero, List.set_cons_succ]
    refine wpAny_ready (rs := [0]) (by kernel_rfl) (by simp) ?_
    refine AllReady.cons (o := ⟨some 88, _, _, _, _, _⟩) rfl (fun K hK => ?_) AllReady.nil
    rw [if_pos (by kernel_rfl)]
    refine wp_load_mid 27 _ (by rfl) b3 0 (by rfl) (voC v (.slice none 0 0)) _ (fun j x hj => by rw [Nat.zero_add]; exact (Bx.of_blk Y3.out).drew.2 j x hj) Try.underlying27 rfl (by kernel_rfl) ?_
    rw [← vo_voC]
    refine hK _ _ ?_; clear hK K
    try simp only [Act.put, List.setIfInBounds_toArray, List.set_cons_zero, List.set_cons_succ]
    refine wpAny_ready (rs := [6]) (by kernel_rfl) (by simp) ?_
    refine AllReady.cons (o := ⟨some 94, _, _, _, _, _⟩) rfl (fun K hK => ?_) AllReady.nil
    go_simp
    go_at_call 89
    refine (put_s v none 0 0 N i q _ i1 i12).mono ?_
    rw [← HU.out]
    rintro e w6 ⟨rfl, hb6⟩
    have Z3 := Lib.hid (Y3.out.drew.below hb6 Y3.out.drew.lt)
    have Z4 := Lib.hid (Y4.out.drew.below hb6 Y4.out.drew.lt)
    have LZ := Lib.hid (LY.out.drew.trans (hb6.mono LY.out.drew.size))
    have ZB := Lib.hid (Nat.le_trans YB.out hb6.size)
    clear hb6
    try go_wp2_with fail
    try (refine hK _ _ ?_; clear hK K)
    try simp only [Act.put, List.setIfInBounds_toArray, List.set_cons_zero, List.set_cons_succ]
    refine wpAny_ready (rs := [7]) (by kernel_rfl) (by simp) ?_
    refine AllReady.cons (o := ⟨none, _, _, _, _, _⟩) rfl (fun K hK => ?_) AllReady.nil
    rw [if_pos (by kernel_rfl)]
    refine wp_store_mid 27 _ _ (by rfl) b3 0 (voC u (.slice none 0 0)).toArray (by rfl) (by rfl) (Z3.out.there _ rfl) (by kernel_rfl) (voC_one u _ _ _) ?_
    refine hK _ _ ?_; clear hK K
    try simp only [Act.put, List.setIfInBounds_toArray, List.set_cons_zero, List.set_cons_succ]
    refine wpAny_done (by kernel_rfl) ?_ _
    obtain ⟨w7, hw7⟩ : ∃ w7, w7 = w6.setCells b3 0 (voC u (.slice none 0 0)) := ⟨_, rfl⟩
    change Exit.then _ _ Exit.normal _ (w6.setCells b3 0 (voC u (.slice none 0 0)))
    rw [← hw7]
    have T3 : Hid (Blk w7 b3 27 (voC u (.slice none 0 0))) := Lib.hid (by rw [hw7]; exact Z3.out.setCells rfl)
    have T4 : Hid (Blk w7 w.heap.size 27 (voC (OD.new 0 []) (.slice none 0 0))) := Lib.hid (by rw [hw7]; exact Z4.out.farS (by omega) _ _)
    have LT : Hid (Below w.heap.size w w7) := Lib.hid (by rw [hw7]; exact Below.setCells' LZ.out (by omega) _ _)
    have TB : Hid (b3 + 1 ≤ w7.heap.size) := Lib.hid (by rw [hw7, setCells_size]; exact ZB.out)
    clear hw7 Y3 Y4 LY YB Z3 Z4 LZ ZB
    go_wp2
    go_roundw
    case rel => exact ⟨j + 1, pos + m2, u, by omega, by rw [show (j + 1) * 2 = p + 2 by have := HP.out; omega]; go_num, by go_num, by omega, HD2, HV2, HI2, T3, T4, LT, TB⟩
    case measure => (have := HP.out; simp [intOf]; try omega)
end Go.Proofs.Ytkgbkgonlopciaa

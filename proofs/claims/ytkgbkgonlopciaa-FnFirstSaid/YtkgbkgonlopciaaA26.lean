/- The walk of ReadOpt of the program. -/
import Derived.Test.YtkgbkgonlopciaaA23
import Derived.Test.YtkgbkgonlopciaaA5
import Derived.Test.YtkgbkgonlopciaaP2
import Derived.Deep.Cut
import Derived.Outline
import Derived.Deep.QuietTactic
import Derived.BigQuiet
import Derived.Deep.RegionHeld
namespace Go.Proofs.Ytkgbkgonlopciaa
open Go.RowKit
set_option linter.unusedVariables false
set_option linter.unusedSimpArgs false
theorem wf_new {k : Int} {ids : List Int} (hk : i64R k) (hi : ∀ x ∈ ids, i64R x) : (OD.new k ids).wf := by
  have h0 : i64R 0 := by unfold i64R; omega
  exact ⟨⟨hk, h0, h0, h0, h0, h0, h0, h0, h0, h0⟩, ⟨by show (0 : Nat) ≤ maxLen; omega, by show (0 : Nat) ≤ maxLen; omega⟩, hi⟩
theorem wf_put {o : OD} (h : o.wf) (i : Nat) {n : Int} {f : Bool} {t : ByteArray} (hn : i64R n) (ht : t.size ≤ maxLen) : (o.put i n f t).wf := by
  obtain ⟨⟨h0, h1, h2, h3, h4, h5, h6, h7, h8, h9⟩, ⟨a1, a2⟩, hi⟩ := h
  unfold OD.put
  split
  · exact ⟨⟨h0, hn, h2, h3, h4, h5, h6, h7, h8, h9⟩, ⟨a1, a2⟩, hi⟩
  · exact ⟨⟨h0, h1, hn, h3, h4, h5, h6, h7, h8, h9⟩, ⟨a1, a2⟩, hi⟩
  · exact ⟨⟨h0, h1, h2, hn, h4, h5, h6, h7, h8, h9⟩, ⟨a1, a2⟩, hi⟩
  · exact ⟨⟨h0, h1, h2, h3, hn, h5, h6, h7, h8, h9⟩, ⟨a1, a2⟩, hi⟩
  · exact ⟨⟨h0, h1, h2, h3, h4, hn, h6, h7, h8, h9⟩, ⟨a1, a2⟩, hi⟩
  · exact ⟨⟨h0, h1, h2, h3, h4, h5, hn, h7, h8, h9⟩, ⟨a1, a2⟩, hi⟩
  · exact ⟨⟨h0, h1, h2, h3, h4, h5, h6, hn, h8, h9⟩, ⟨a1, a2⟩, hi⟩
  · exact ⟨⟨h0, h1, h2, h3, h4, h5, h6, h7, hn, h9⟩, ⟨a1, a2⟩, hi⟩
  · exact ⟨⟨h0, h1, h2, h3, h4, h5, h6, h7, h8, hn⟩, ⟨a1, a2⟩, hi⟩
  · exact ⟨⟨h0, h1, h2, h3, h4, h5, h6, h7, h8, h9⟩, ⟨a1, a2⟩, hi⟩
  · exact ⟨⟨h0, h1, h2, h3, h4, h5, h6, h7, h8, h9⟩, ⟨ht, a2⟩, hi⟩
  · exact ⟨⟨h0, h1, h2, h3, h4, h5, h6, h7, h8, h9⟩, ⟨a1, ht⟩, hi⟩
  · exact ⟨⟨h0, h1, h2, h3, h4, h5, h6, h7, h8, h9⟩, ⟨a1, a2⟩, hi⟩
theorem put_ids (o : OD) (i : Nat) (n : Int) (f : Bool) (t : ByteArray) : (o.put i n f t).ids = o.ids := by unfold OD.put; split <;> rfl
theorem put_k (o : OD) (i : Nat) (n : Int) (f : Bool) (t : ByteArray) : (o.put i n f t).k = o.k := by unfold OD.put; split <;> rfl
theorem numAtN_lt (s : ByteArray) (a wd : Int) : numAtN s a wd < 281474976710656 := by
  cases h : numAtB s a wd
  · rw [numAtN_no h]; omega
  · obtain ⟨A, M, rfl, rfl, h1, h6, hA⟩ := numAtB_yes h
    have := (num_pre h1 h6 hA).2.2
    exact lt_256 this h6
theorem numAtN_1 (s : ByteArray) (a : Int) : numAtN s a 1 < 256 := by
  cases h : numAtB s a 1
  · rw [numAtN_no h]; omega
  · obtain ⟨A, M, rfl, hM, h1, h6, hA⟩ := numAtB_yes h
    have hM1 : M = 1 := by omega
    subst hM1
    have := (num_pre h1 h6 hA).2.2
    simpa using this
theorem textAtS_size (s : ByteArray) (a m : Int) (M : Nat) (hm : m = M) : (textAtS s a m).size ≤ M := by
  cases h : textAtB s a m
  · rw [textAtS_no h]; simp [ByteArray.size]
  · obtain ⟨A, M', rfl, rfl, hA⟩ := textAtB_yes h
    rw [textAtS_mk hA, ext_size hA]
    omega
theorem i64R_nat {n : Nat} (h : n ≤ 9223372036854775807) : i64R (n : Int) := by unfold i64R; omega
/-- what a read hands back -/
def GivesRead (r : Option OD) (at2 : Int) (w : World) (e : Ending) (w' : World) : Prop := match r with
  | some o => ∃ iv, e = .returned (.tuple #[vo o iv, .int .i64 at2]) ∧ Obs w' w.heap.size 1 iv o.ids.length (o.ids.map vn) ∧ o.wf ∧ Below w.heap.size w w'
  | none => e = .returned (.tuple #[vo (OD.new 0 []) (.slice none 0 0), .int .i64 (-1)]) ∧ Below w.heap.size w w'
theorem results_opt2 {fn : Func} {t u b : Nat} {o : OD} {iv x : Value} {w : World} {tmps : Array Value} (h : fn.results = #[.cell t 27, .tmp u]) (ht : tmps[t]? = some (.pointer (some ⟨b, 0, none⟩))) (hu : tmps[u]? = some x) (hB : Bx w b (voC o iv)) :
    (results fn tmps).run Try.prog w = .ok (.tuple #[vo o iv, x]) w := by
  have hl := run_loadVar_mid (P := Try.prog) w b 0 27 (voC o iv) _ (fun j v hj => by rw [Nat.zero_add]; exact hB.2 j v hj) Try.underlying27 rfl (by kernel_rfl)
  simp [results, h, ht, hu, hl, vo_voC, asAddr]
/-- nothing was read -/
theorem read_no {w W : World} {at2 : Int} {cs : List Value} (L : Below w.heap.size w W) (hb : w.heap.size ≤ w.heap.size) : GivesRead none at2 w (.returned (.tuple #[vo (OD.new 0 []) (.slice none 0 0), .int .i64 (-1)])) (W.setCells w.heap.size 0 cs) :=
  ⟨rfl, Below.setCells' L (Nat.le_refl _) _ _⟩
set_option maxRecDepth 100000 in
set_option maxHeartbeats 6400000 in
theorem readOpt_i (s : ByteArray) (a : Int) (w : World) (hs : s.size ≤ 9223372036854775807) (ha : i64R a) :
    Calls Try.prog 44 #[.string s, .int .i64 a] w (GivesRead (readO s a) (a + 2 + numAtN s (a + 1) 1) w) := by
  obtain ⟨r, hr⟩ : ∃ r, r = readO s a := ⟨_, rfl⟩
  obtain ⟨a2, ha2⟩ : ∃ a2, a2 = a + 2 + (numAtN s (a + 1) 1 : Int) := ⟨_, rfl⟩
  rw [← hr, ← ha2]
  have HR := Lib.hid hr
  have HA2 := Lib.hid ha2
  have HA := Lib.hid ha
  clear hr ha2 ha
  go_enter Try.func44, Try.ntmps44
  go_upto_region 1 with (fail)
  obtain ⟨W, hW⟩ : ∃ W, W = w.alloc (.cells (voC (OD.new 0 []) (.slice none 0 0)).toArray 27) := ⟨_, rfl⟩
  change Code.wp _ _ _ _ (w.alloc (.cells (voC (OD.new 0 []) (.slice none 0 0)).toArray 27))
  rw [← hW]
  have L0 := Lib.hid ((Below.refl w.heap.size w).alloc (Nat.le_refl _) (.cells (voC (OD.new 0 []) (.slice none 0 0)).toArray 27))
  have X0 := Lib.hid (Blk.new w 27 (voC (OD.new 0 []) (.slice none 0 0)).toArray)
  rw [← hW] at L0 X0
  clear hW
  obtain ⟨K, hK⟩ : ∃ K, K = numAtN s a 1 := ⟨_, rfl⟩
  have hK256 : K < 256 := by rw [hK]; exact numAtN_1 s a
  go_wp2_with fail
  refine (numAt_i s a 1 _ hs).mono ?_
  rw [← hK]
  rintro e w1 ⟨rfl, hb⟩
  have L1 := Lib.hid (L0.out.trans (hb.mono L0.out.size))
  have X1 := Lib.hid (X0.out.below hb X0.out.lt)
  clear hb X0 L0
  cases b1 : numAtB s a 1
  case false =>
    have HN : Hid (r = none) := Lib.hid (by rw [HR.out]; unfold readO readP; rw [b1]; rfl)
    clear b1
    go_wp2_with (refine wpl_store_optM (o := OD.new 0 []) (A := none) (n := 0) (c := 0) rfl (by rfl) (by rfl) (by rfl) X1.out rfl ?_)
    refine bodyPost_ret (results_opt2 rfl (by rfl) (by rfl) (Bx.setCells (vs := voC (OD.new 0 []) (.slice none 0 0)) X1.out rfl)) rfl ?_
    rw [HN.out]
    exact read_no L1.out (Nat.le_refl _)
  obtain ⟨A, M1, rfl, hM1, _, _, hA1⟩ := numAtB_yes b1
  obtain rfl : M1 = 1 := by omega
  have B1 := Lib.hid b1
  have HKK := Lib.hid hK
  clear b1 hM1 hK
  obtain ⟨M, hM⟩ : ∃ M, M = numAtN s ((A : Int) + 1) 1 := ⟨_, rfl⟩
  have hM256 : M < 256 := by rw [hM]; exact numAtN_1 s _
  go_wp2_with fail
  refine (numAt_i s ((A : Int) + 1) 1 _ hs).mono ?_
  rw [← hM]
  rintro e w2 ⟨rfl, hb⟩
  have L2 := Lib.hid (L1.out.trans (hb.mono L1.out.size))
  have X2 := Lib.hid (X1.out.below hb X1.out.lt)
  clear hb X1 L1
  cases b2 : numAtB s ((A : Int) + 1) 1
  case false =>
    have HN : Hid (r = none) := Lib.hid (by rw [HR.out]; unfold readO readP; rw [b2, Bool.and_false]; rfl)
    clear b2
    go_wp2_with (refine wpl_store_optM (o := OD.new 0 []) (A := none) (n := 0) (c := 0) rfl (by rfl) (by rfl) (by rfl) X2.out rfl ?_)
    refine bodyPost_ret (results_opt2 rfl (by rfl) (by rfl) (Bx.setCells (vs := voC (OD.new 0 []) (.slice none 0 0)) X2.out rfl)) rfl ?_
    rw [HN.out]
    exact read_no L2.out (Nat.le_refl _)
  have hA2 : A + 2 ≤ s.size := by
    obtain ⟨A', M', h1, h2, _, _, h3⟩ := numAtB_yes b2
    omega
  have B2 := Lib.hid b2
  have HMM := Lib.hid hM
  have HA2' : Hid (a2 = (A : Int) + 2 + (M : Int)) := Lib.hid (by rw [HA2.out, HMM.out])
  clear b2 hM HA2
  obtain ⟨t, ht⟩ : ∃ t, t = textAtS s ((A : Int) + 2) (M : Int) := ⟨_, rfl⟩
  have hts : t.size ≤ M := by rw [ht]; exact textAtS_size s _ _ M rfl
  go_wp2_with fail
  refine (textAt_i s ((A : Int) + 2) (M : Int) _ hs).mono ?_
  rw [← ht]
  rintro e w3 ⟨rfl, rfl⟩
  cases b3 : textAtB s ((A : Int) + 2) (M : Int)
  case false =>
    have HN : Hid (r = none) := Lib.hid (by rw [HR.out]; unfold readO readP; rw [← HMM.out, b3, Bool.and_false]; rfl)
    clear b3 ht
    go_wp2_with (refine wpl_store_optM (o := OD.new 0 []) (A := none) (n := 0) (c := 0) rfl (by rfl) (by rfl) (by rfl) X2.out rfl ?_)
    refine bodyPost_ret (results_opt2 rfl (by rfl) (by rfl) (Bx.setCells (vs := voC (OD.new 0 []) (.slice none 0 0)) X2.out rfl)) rfl ?_
    rw [HN.out]
    exact read_no L2.out (Nat.le_refl _)
  have hA3 : A + 2 + M ≤ s.size := by
    obtain ⟨A', M', h1, h2, h3⟩ := textAtB_yes b3
    omega
  have HT := Lib.hid ht
  have HRR : Hid (r = match decF (fun n => n == 1) t (lay (K : Int)) 0 (startO (K : Int) t) with
      | some o => if optL o = (textAtS s A (2 + (M : Int))).data.toList then some o else none
      | none => none) := Lib.hid (by
    rw [HR.out]
    unfold readO readP
    rw [← HMM.out, ← HKK.out, B1.out, B2.out, b3, ← HT.out]
    rfl)
  clear b3 ht HR B1 B2
  go_upto_region 11 with (fail)
  obtain ⟨W3, hW3⟩ : ∃ W3, W3 = w2.alloc (.cells (voC (OD.new (K : Int) []) (.slice none 0 0)).toArray 27) := ⟨_, rfl⟩
  change Code.wp _ _ _ _ (w2.alloc (.cells (voC (OD.new (K : Int) []) (.slice none 0 0)).toArray 27))
  rw [← hW3]
  have X3 := Lib.hid (Blk.new w2 27 (voC (OD.new (K : Int) []) (.slice none 0 0)).toArray)
  rw [← hW3] at X3
  have L3 : Hid (Below w.heap.size w W3) := Lib.hid (by rw [hW3]; exact L2.out.alloc L2.out.size _)
  have Y3 : Hid (Blk W3 w.heap.size 27 (voC (OD.new 0 []) (.slice none 0 0))) := Lib.hid (by rw [hW3]; exact X2.out.alloc _)
  have hne : w.heap.size < w2.heap.size := X2.out.lt
  clear hW3 X2 L2
  by_cases h8 : K = 8
  · subst h8
    have hv8 : (startO 8 t) = OD.new 8 (t.data.toList.map fun c => (c.toNat : Int)) := by unfold startO; rw [if_pos rfl]
    obtain ⟨b3, hb3⟩ : ∃ b, b = w2.heap.size := ⟨_, rfl⟩
    have hB3 : b3 + 1 ≤ W3.heap.size := by have := X3.out.lt; omega
    rw [← hb3] at X3 hne ⊢
    have HV8 := Lib.hid hv8
    clear hb3 hv8
    obtain ⟨i0, hi, hz0, hz1, hz2⟩ := info_parts i64_info
    go_wp2
    go_loopw [13] (fun i wr => ∃ (k nv cv : Nat) (Av : Option Addr), k ≤ t.size ∧ i = .int .i64 (k : Int) ∧ Hid (nv = k) ∧ Hid (Obs wr (b3 + 1) 1 (.slice Av nv cv) nv (((t.data.toList.take k).map fun c => (c.toNat : Int)).map vn)) ∧ Hid (Blk wr b3 27 (voC (OD.new 8 []) (.slice Av nv cv))) ∧ Hid (Blk wr w.heap.size 27 (voC (OD.new 0 []) (.slice none 0 0))) ∧ Hid (Below w.heap.size w wr) ∧ Hid (b3 + 1 ≤ wr.heap.size)) (fun i _ => t.size - (intOf i).toNat)
    case atStart => exact ⟨0, 0, 0, none, Nat.zero_le _, rfl, Lib.hid rfl, Lib.hid (Obs.nil _ _ _), X3, Y3, L3, Lib.hid hB3⟩
    case round =>
      clear X3 Y3 L3 hB3
      obtain ⟨k, nv, cv, Av, hk, rfl, HNK, OV, V3, V4, LW, HB3⟩ := hrel
      by_cases hlt : k < t.size
      case neg =>
        obtain rfl : k = t.size := by omega
        obtain ⟨v, hv⟩ : ∃ v, v = OD.new 8 (t.data.toList.map fun c => (c.toNat : Int)) := ⟨_, rfl⟩
        have hbytes : ∀ x ∈ t.data.toList.map (fun c => (c.toNat : Int)), i64R x := fun x hx => by
          obtain ⟨c, _, rfl⟩ := List.mem_map.1 hx
          have := c.toNat_lt
          exact i64R_nat (by omega)
        have HV : Hid v.wf := Lib.hid (by rw [hv]; exact wf_new (by unfold i64R; omega) hbytes)
        have HD : Hid (decF (fun n => n == 1) t (lay ((8 : Nat) : Int)) 0 (startO ((8 : Nat) : Int) t) = some v) := Lib.hid (by
          rw [show startO ((8 : Nat) : Int) t = v from HV8.out.trans hv.symm]; rfl)
        have HNV : Hid (nv = v.ids.length) := Lib.hid (by rw [HNK.out, hv]; simp [OD.new])
        have OV : Hid (Obs wr (b3 + 1) 1 (.slice Av nv cv) nv (v.ids.map vn)) := Lib.hid (by
          have h9 := OV.out
          rw [List.take_of_length_le (by simp)] at h9
          rw [hv]
          exact h9)
        have V3 : Hid (Blk wr b3 27 (voC v (.slice Av nv cv))) := Lib.hid (by rw [hv]; exact V3.out)
        have hnv : nv ≤ 300 := by have := HNK.out; omega
        clear hv hbytes
        go_wp2_with fail
        refine (layoutOf_i ((8 : Nat) : Int) _).mono ?_
        rintro e w4 ⟨v4, rfl, ho4, hb4⟩
        have O4 := Lib.hid ho4
        obtain ⟨A4, c4, rfl⟩ := ho4.shape
        have OV := Lib.hid (OV.out.below hb4)
        have V3 := Lib.hid (V3.out.below hb4 V3.out.lt)
        have V4 := Lib.hid (V4.out.below hb4 V4.out.lt)
        have LW := Lib.hid (LW.out.trans (hb4.mono LW.out.size))
        clear ho4 hb4 O4
        rw [show (lay ((8 : Nat) : Int)).length = 0 from rfl]
        go_wp2
        obtain ⟨wo, rfl⟩ : ∃ wo : World, wo = wr := ⟨_, rfl⟩
        go_loopw [73] (fun i wr => i = .int .i64 0 ∧ wr = w4) (fun i _ => 0)
        case atStart => exact ⟨rfl, rfl⟩
        case round =>
        obtain ⟨rfl, hwr⟩ := hrel
        subst hwr
        have HO := Lib.hid (show r = if optL v = (textAtS s A (2 + (M : Int))).data.toList then some v else none from by rw [HRR.out, HD.out])
        obtain ⟨T, hT⟩ : ∃ T, T = s.extract A (A + 2 + M) := ⟨_, rfl⟩
        have HT2 : Hid ((textAtS s A (2 + (M : Int))).data.toList = T.data.toList) := Lib.hid (by
          rw [show (2 : Int) + (M : Int) = ((2 + M : Nat) : Int) by omega, textAtS_mk (by omega), hT, Nat.add_assoc])
        obtain ⟨R1, hR1⟩ : ∃ R1, R1 = str (optL v) := ⟨_, rfl⟩
        have HR1 := Lib.hid hR1
        have HTT := Lib.hid hT
        have w1 : IntKind.i64.wrap ((A : Int) + 2) = (A : Int) + 2 := IntWalk.i64_in _ (by omega)
        have w2' : IntKind.i64.wrap ((A : Int) + 2 + (M : Int)) = (A : Int) + 2 + (M : Int) := IntWalk.i64_in _ (by omega)
        have g0 : (0 : Int) ≤ (A : Int) + 2 + (M : Int) := by omega
        have g1 : (A : Int) ≤ (A : Int) + 2 + (M : Int) := by omega
        have g2 : (A : Int) + 2 + (M : Int) ≤ (s.size : Int) := by omega
        have g3 : ((A : Int) + 2 + (M : Int)).toNat = A + 2 + M := by omega
        clear hR1 hT
        go_wp2_with fail
        have hTx : s.extract A (A + 2 + M) = T := HTT.out.symm
        refine wp_region_held_drew (S := fun w' => Bx w' b3 (voC v (.slice Av nv cv)) ∧ Below wr.heap.size wr w') (by kernel_rfl) ⟨(Bx.of_blk V3.out).drew, (Below.refl _ wr).drew⟩ (fun hHeld => ?_)
        refine wpAnyH_take (i := 0) rfl (by kernel_rfl) (by kernel_rfl) (by kernel_rfl) (fun _ _ _ h => h) (yields_opt (by kernel_rfl) rfl (by rfl) (fun w h => h.1)) (by assumption) ?_
        try simp only [Act.put, List.setIfInBounds_toArray, List.set_cons_zero, List.set_cons_succ]
        refine wpAnyH_take (i := 2) (v := ?_) rfl (by kernel_rfl) (by kernel_rfl) (by kernel_rfl) (fun _ _ _ h => h) (Or.inl ⟨by rfl, ?_⟩) (by assumption) ?_
        rotate_left
        · (intro w hSw; (try dsimp only at hSw); go_simp; try (with_reducible rfl))
        try simp only [Act.put, List.setIfInBounds_toArray, List.set_cons_zero, List.set_cons_succ]
        refine wpAnyH_take (i := 3) (v := ?_) rfl (by kernel_rfl) (by kernel_rfl) (by kernel_rfl) (fun _ _ _ h => h) (Or.inl ⟨by rfl, ?_⟩) (by assumption) ?_
        rotate_left
        · (intro w hSw; (try dsimp only at hSw); go_simp; try (with_reducible rfl))
        try simp only [Act.put, List.setIfInBounds_toArray, List.set_cons_zero, List.set_cons_succ]
        refine wpAnyH_take (i := 4) (v := ?_) rfl (by kernel_rfl) (by kernel_rfl) (by kernel_rfl) (fun _ _ _ h => h) (Or.inl ⟨by rfl, ?_⟩) (by assumption) ?_
        rotate_left
        · (intro w hSw; (try dsimp only at hSw); go_simp; try (with_reducible rfl))
        try simp only [Act.put, List.setIfInBounds_toArray, List.set_cons_zero, List.set_cons_succ]
        refine wpAnyH_take (i := 5) (v := ?_) rfl (by kernel_rfl) (by kernel_rfl) (by kernel_rfl) (fun _ _ _ h => h) (Or.inl ⟨by rfl, ?_⟩) (by assumption) ?_
        rotate_left
        · (intro w hSw; (try dsimp only at hSw); go_simp; try (with_reducible rfl))
        try simp only [Act.put, List.setIfInBounds_toArray, List.set_cons_zero, List.set_cons_succ]
        refine wpAnyH_take (i := 6) (v := ?_) rfl (by kernel_rfl) (by kernel_rfl) (by kernel_rfl) (fun _ _ _ h => h) (Or.inl ⟨by rfl, ?_⟩) (by assumption) ?_
        rotate_left
        · (intro w hSw; (try dsimp only at hSw); go_simp; try (with_reducible rfl))
        try simp only [Act.put, List.setIfInBounds_toArray, List.set_cons_zero, List.set_cons_succ]
        refine wpAnyH_take (i := 7) (v := ?_) rfl (by kernel_rfl) (by kernel_rfl) (by kernel_rfl) (fun _ _ _ h => h) (Or.inl ⟨by rfl, ?_⟩) (by assumption) ?_
        rotate_left
        · (intro w hSw; (try dsimp only at hSw); go_simp; try (with_reducible rfl))
        try simp only [Act.put, List.setIfInBounds_toArray, List.set_cons_zero, List.set_cons_succ]
        refine wpAnyH_take (i := 8) (v := ?_) rfl (by kernel_rfl) (by kernel_rfl) (by kernel_rfl) (fun _ _ _ h => h) (Or.inl ⟨by rfl, ?_⟩) (by assumption) ?_
        rotate_left
        · (intro w hSw; (try dsimp only at hSw); go_simp; try (with_reducible rfl))
        try simp only [Act.put, List.setIfInBounds_toArray, List.set_cons_zero, List.set_cons_succ]
        refine wpAnyH_ready (rs := [1]) (by kernel_rfl) (by simp) ?_
        refine AllReadyH.cons rfl (fun K hK => ?_) AllReadyH.nil
        go_simp
        (go_at_call 38; refine (optText_i v Av nv cv _ OV.out.drew.rd (by omega) HV.out).mono ?_; rw [← HR1.out]; rintro e w5 ⟨rfl, hb5⟩)
        try go_wp2_with fail
        refine hK.out _ _ ?_ (fun hHeld => ?_)
        · exact ⟨(Bx.of_blk V3.out).drew.below hb5, (Below.refl _ wr).drew.trans hb5⟩
        clear hK K
        try simp only [Act.put, List.setIfInBounds_toArray, List.set_cons_zero, List.set_cons_succ]
        have OV5 := Lib.hid (OV.out.below ((Below.refl wr.heap.size wr).drew.trans hb5))
        have L5 := Lib.hid (LW.out.trans (((Below.refl wr.heap.size wr).drew.trans hb5).mono LW.out.size))
        have Z3 := Lib.hid (V3.out.below ((Below.refl wr.heap.size wr).drew.trans hb5) V3.out.lt)
        have Z4 := Lib.hid (V4.out.below ((Below.refl wr.heap.size wr).drew.trans hb5) V4.out.lt)
        clear hb5
        by_cases ce : R1.data.toList = T.data.toList
        · have d1 : (R1.toList == T.toList) = true := by rw [ByteArray.toList_eq, ByteArray.toList_eq]; simp [ce]
          have HY : Hid (r = some v) := Lib.hid (by rw [HO.out, if_pos]; rw [HT2.out, ← ce, HR1.out, str_toList])
          clear ce
          refine wpAnyH_take (i := 9) (v := ?_) rfl (by kernel_rfl) (by kernel_rfl) (by kernel_rfl) (fun _ _ _ h => h) (Or.inl ⟨by rfl, ?_⟩) (by assumption) ?_
          rotate_left
          · (intro w hSw; (try dsimp only at hSw); go_simp; try (with_reducible rfl))
          try simp only [Act.put, List.setIfInBounds_toArray, List.set_cons_zero, List.set_cons_succ]
          refine wpAnyH_done (by kernel_rfl) ?_ _
          repeat clear hHeld
          go_wp2_with (first | (refine wpl_opt (o := v) rfl (by rfl) (by rfl) (Bx.of_blk Z3.out) ?_) | (refine wpl_store_optM (o := v) rfl (by rfl) (by rfl) (by rfl) Z4.out rfl ?_))
          refine bodyPost_ret (results_opt2 rfl (by rfl) (by rfl) (Bx.setCells (vs := voC v (.slice Av nv cv)) Z4.out rfl)) rfl ?_
          rw [HY.out]
          refine ⟨.slice Av nv cv, by rw [HA2'.out]; rfl, ?_, HV.out, Below.setCells' L5.out (Nat.le_refl _) _ _⟩
          have e9 := HNV.out
          rw [← e9]
          exact ((OV5.out.farS (by omega) _ _).mono (by omega))
        · have d1 : (R1.toList == T.toList) = false := by rw [ByteArray.toList_eq, ByteArray.toList_eq]; exact beq_eq_false_iff_ne.2 ce
          have HN : Hid (r = none) := Lib.hid (by rw [HO.out, if_neg]; rw [HT2.out]; intro e; exact ce (by rw [← e, HR1.out, str_toList]))
          clear ce
          refine wpAnyH_take (i := 9) (v := ?_) rfl (by kernel_rfl) (by kernel_rfl) (by kernel_rfl) (fun _ _ _ h => h) (Or.inl ⟨by rfl, ?_⟩) (by assumption) ?_
          rotate_left
          · (intro w hSw; (try dsimp only at hSw); go_simp; try (with_reducible rfl))
          try simp only [Act.put, List.setIfInBounds_toArray, List.set_cons_zero, List.set_cons_succ]
          refine wpAnyH_done (by kernel_rfl) ?_ _
          repeat clear hHeld
          go_wp2_with (refine wpl_store_optM (o := OD.new 0 []) (A := none) (n := 0) (c := 0) rfl (by rfl) (by rfl) (by rfl) Z4.out rfl ?_)
          refine bodyPost_ret (results_opt2 rfl (by rfl) (by rfl) (Bx.setCells (vs := voC (OD.new 0 []) (.slice none 0 0)) Z4.out rfl)) rfl ?_
          rw [HN.out]
          exact read_no L5.out (Nat.le_refl _)
      have hx := t[k].toNat_lt
      obtain ⟨x, hxx⟩ : ∃ x, x = t[k].toNat := ⟨_, rfl⟩
      have e1 : t[k].toNat = x := hxx.symm
      have HST : Hid ((t.data.toList.take (k + 1)).map (fun c => (c.toNat : Int)) = (t.data.toList.take k).map (fun c => (c.toNat : Int)) ++ [(x : Int)]) := Lib.hid (by
        rw [take_succ_bytes t k hlt, List.map_append, hxx]; rfl)
      have x13 : wr.cell? ⟨b3, 13, none⟩ = some (.slice Av nv cv) := V3.out.cell 13
      have f13 := V3.out.frozen 13
      have hnk : nv ≤ 300 := by have := HNK.out; omega
      have htk : (k : Int) < (t.size : Int) := by omega
      have wx : IntKind.i64.wrap (x : Int) = (x : Int) := IntWalk.i64_in _ (by omega)
      clear hxx
      go_wp2_with fail
      have x13b : (wr.alloc (.cells #[.int .i64 (x : Int)] 3)).cell? ⟨b3, 13, none⟩ = some (.slice Av nv cv) := (V3.out.alloc _).cell 13
      refine wp_region_any (by kernel_rfl) ?_
      try (change wpAny _ _ _ _ _ _ _ (World.drew _))
      refine wpAny_take (i := 0) (v := ?_) rfl (by kernel_rfl) (by kernel_rfl) (by kernel_rfl) (fun _ _ _ h => h) (Or.inl ⟨by rfl, ?_⟩) ?_
      rotate_left
      · (intro w; go_simp; try (with_reducible rfl))
      refine wpAny_take (i := 2) (v := ?_) rfl (by kernel_rfl) (by kernel_rfl) (by kernel_rfl) (fun _ _ _ h => h) (Or.inl ⟨by rfl, ?_⟩) ?_
      rotate_left
      · (intro w; go_simp; try (with_reducible rfl))
      refine wpAny_take (i := 3) (v := ?_) rfl (by kernel_rfl) (by kernel_rfl) (by kernel_rfl) (fun _ _ _ h => h) (Or.inl ⟨by rfl, ?_⟩) ?_
      rotate_left
      · (intro w; go_simp; try (with_reducible rfl))
      refine wpAny_take (i := 4) (v := ?_) rfl (by kernel_rfl) (by kernel_rfl) (by kernel_rfl) (fun _ _ _ h => h) (Or.inl ⟨by rfl, ?_⟩) ?_
      rotate_left
      · (intro w; go_simp; try (with_reducible rfl))
      refine wpAny_take (i := 5) (v := ?_) rfl (by kernel_rfl) (by kernel_rfl) (by kernel_rfl) (fun _ _ _ h => h) (Or.inl ⟨by rfl, ?_⟩) ?_
      rotate_left
      · (intro w; go_simp; try (with_reducible rfl))
      refine wpAny_ready (rs := [1, 6]) (by kernel_rfl) (by simp) ?_
      refine AllReady.cons rfl (fun K hK => ?_) (AllReady.cons rfl (fun K hK => ?_) AllReady.nil)
      · go_simp
        refine hK _ _ ?_; clear hK K
        refine wpAny_ready (rs := [6]) (by kernel_rfl) (by simp) ?_
        refine AllReady.cons rfl (fun K hK => ?_) AllReady.nil
        go_simp
        refine hK _ _ ?_; clear hK K
        refine wpAny_ready (rs := [7]) (by kernel_rfl) (by simp) ?_
        refine AllReady.cons rfl (fun K hK => ?_) AllReady.nil
        rw [if_pos (by kernel_rfl)]
        refine wp_append_obs2 _ _ _ 22 (by rfl) (b3 + 1) 3 i0 (.int .i64 0) 1 8 Try.underlying22 hi hz0 hz1 hz2 rfl (by decide) _ nv _ (by rfl) (OV.out.alloc _).drew (b3 + 1) _ 1 _ (by rfl) (obs_one wr 3 (.int .i64 (x : Int)) (b3 + 1) HB3.out).drew (by intro u hu; obtain rfl := List.mem_singleton.1 hu; rfl) (by unfold maxLen; omega) (by omega) (by have := HB3.out; simp; omega) (fun v7 w7 ho7 hb7 hg7 => ?_)
        have H7 : Hid (Blk w7 b3 27 (voC (OD.new 8 []) (.slice Av nv cv))) := Lib.hid ((V3.out.alloc _).drew.below hb7 (by omega))
        have H4 : Hid (Blk w7 w.heap.size 27 (voC (OD.new 0 []) (.slice none 0 0))) := Lib.hid ((V4.out.alloc _).drew.below hb7 (by omega))
        have L7 := Lib.hid ((LW.out.alloc LW.out.size _).drew.trans (hb7.mono (by omega)))
        have O7 : Hid (Obs w7 (b3 + 1) 1 v7 (nv + 1) (((t.data.toList.take (k + 1)).map fun c => (c.toNat : Int)).map vn)) := Lib.hid (by rw [HST.out, List.map_append]; exact ho7)
        have S7 : Hid (b3 + 1 ≤ w7.heap.size) := Lib.hid (Nat.le_trans HB3.out (Nat.le_trans (Nat.le_of_lt (by show wr.heap.size < (wr.alloc _).heap.size; simp)) hb7.size))
        obtain ⟨A7, c7, rfl⟩ := O7.out.shape
        clear ho7 hb7 hg7 x13 f13 x13b
        have x13 : w7.cell? ⟨b3, 13, none⟩ = some (.slice Av nv cv) := H7.out.cell 13
        have f13 := H7.out.frozen 13
        refine hK _ _ ?_; clear hK K
        try simp only [Act.put, List.setIfInBounds_toArray, List.set_cons_zero, List.set_cons_succ]
        refine wpAny_ready (rs := [8]) (by kernel_rfl) (by simp) ?_
        refine AllReady.cons rfl (fun K hK => ?_) AllReady.nil
        go_simp
        refine hK _ _ ?_; clear hK K
        refine wpAny_ready (rs := [9]) (by kernel_rfl) (by simp) ?_
        refine AllReady.cons rfl (fun K hK => ?_) AllReady.nil
        go_simp
        refine hK _ _ ?_; clear hK K
        refine wpAny_done (by kernel_rfl) ?_ _
        have V7 : Hid (Blk (w7.setCell ⟨b3, 13, none⟩ (.slice A7 (nv + 1) c7)) b3 27 (voC (OD.new 8 []) (.slice A7 (nv + 1) c7))) := Lib.hid (H7.out.set_ 13 _)
        have V4' := Lib.hid (H4.out.far (p := ⟨b3, 13, none⟩) (by dsimp only; omega) (.slice A7 (nv + 1) c7))
        have L8 := Lib.hid (L7.out.setCell (p := ⟨b3, 13, none⟩) (by dsimp only; omega) (.slice A7 (nv + 1) c7))
        have O8 := Lib.hid (O7.out.far (p := ⟨b3, 13, none⟩) (by dsimp only; omega) (.slice A7 (nv + 1) c7))
        have S8 : Hid (b3 + 1 ≤ (w7.setCell ⟨b3, 13, none⟩ (.slice A7 (nv + 1) c7)).heap.size) := Lib.hid (by simp [World.setCell]; exact S7.out)
        clear x13 f13
        go_wp2
        go_roundw
        case rel => exact ⟨k + 1, nv + 1, c7, A7, by omega, by go_num, Lib.hid (by rw [HNK.out]), O8, V7, V4', L8, S8⟩
        case measure => (simp [intOf]; try omega)
      · go_simp
        refine hK _ _ ?_; clear hK K
        refine wpAny_ready (rs := [1]) (by kernel_rfl) (by simp) ?_
        refine AllReady.cons rfl (fun K hK => ?_) AllReady.nil
        go_simp
        refine hK _ _ ?_; clear hK K
        refine wpAny_ready (rs := [7]) (by kernel_rfl) (by simp) ?_
        refine AllReady.cons rfl (fun K hK => ?_) AllReady.nil
        rw [if_pos (by kernel_rfl)]
        refine wp_append_obs2 _ _ _ 22 (by rfl) (b3 + 1) 3 i0 (.int .i64 0) 1 8 Try.underlying22 hi hz0 hz1 hz2 rfl (by decide) _ nv _ (by rfl) (OV.out.alloc _).drew (b3 + 1) _ 1 _ (by rfl) (obs_one wr 3 (.int .i64 (x : Int)) (b3 + 1) HB3.out).drew (by intro u hu; obtain rfl := List.mem_singleton.1 hu; rfl) (by unfold maxLen; omega) (by omega) (by have := HB3.out; simp; omega) (fun v7 w7 ho7 hb7 hg7 => ?_)
        have H7 : Hid (Blk w7 b3 27 (voC (OD.new 8 []) (.slice Av nv cv))) := Lib.hid ((V3.out.alloc _).drew.below hb7 (by omega))
        have H4 : Hid (Blk w7 w.heap.size 27 (voC (OD.new 0 []) (.slice none 0 0))) := Lib.hid ((V4.out.alloc _).drew.below hb7 (by omega))
        have L7 := Lib.hid ((LW.out.alloc LW.out.size _).drew.trans (hb7.mono (by omega)))
        have O7 : Hid (Obs w7 (b3 + 1) 1 v7 (nv + 1) (((t.data.toList.take (k + 1)).map fun c => (c.toNat : Int)).map vn)) := Lib.hid (by rw [HST.out, List.map_append]; exact ho7)
        have S7 : Hid (b3 + 1 ≤ w7.heap.size) := Lib.hid (Nat.le_trans HB3.out (Nat.le_trans (Nat.le_of_lt (by show wr.heap.size < (wr.alloc _).heap.size; simp)) hb7.size))
        obtain ⟨A7, c7, rfl⟩ := O7.out.shape
        clear ho7 hb7 hg7 x13 f13 x13b
        have x13 : w7.cell? ⟨b3, 13, none⟩ = some (.slice Av nv cv) := H7.out.cell 13
        have f13 := H7.out.frozen 13
        refine hK _ _ ?_; clear hK K
        try simp only [Act.put, List.setIfInBounds_toArray, List.set_cons_zero, List.set_cons_succ]
        refine wpAny_ready (rs := [8]) (by kernel_rfl) (by simp) ?_
        refine AllReady.cons rfl (fun K hK => ?_) AllReady.nil
        go_simp
        refine hK _ _ ?_; clear hK K
        refine wpAny_ready (rs := [9]) (by kernel_rfl) (by simp) ?_
        refine AllReady.cons rfl (fun K hK => ?_) AllReady.nil
        go_simp
        refine hK _ _ ?_; clear hK K
        refine wpAny_done (by kernel_rfl) ?_ _
        have V7 : Hid (Blk (w7.setCell ⟨b3, 13, none⟩ (.slice A7 (nv + 1) c7)) b3 27 (voC (OD.new 8 []) (.slice A7 (nv + 1) c7))) := Lib.hid (H7.out.set_ 13 _)
        have V4' := Lib.hid (H4.out.far (p := ⟨b3, 13, none⟩) (by dsimp only; omega) (.slice A7 (nv + 1) c7))
        have L8 := Lib.hid (L7.out.setCell (p := ⟨b3, 13, none⟩) (by dsimp only; omega) (.slice A7 (nv + 1) c7))
        have O8 := Lib.hid (O7.out.far (p := ⟨b3, 13, none⟩) (by dsimp only; omega) (.slice A7 (nv + 1) c7))
        have S8 : Hid (b3 + 1 ≤ (w7.setCell ⟨b3, 13, none⟩ (.slice A7 (nv + 1) c7)).heap.size) := Lib.hid (by simp [World.setCell]; exact S7.out)
        clear x13 f13
        go_wp2
        go_roundw
        case rel => exact ⟨k + 1, nv + 1, c7, A7, by omega, by go_num, Lib.hid (by rw [HNK.out]), O8, V7, V4', L8, S8⟩
        case measure => (simp [intOf]; try omega)
  · have q1 : ((K : Int) == 8) = false := by simp; omega
    have HL : Hid (startO (K : Int) t = OD.new (K : Int) []) := Lib.hid (by unfold startO; rw [if_neg (by omega)])
    clear h8
    go_wp2_with fail
    refine (layoutOf_i (K : Int) _).mono ?_
    rintro e w4 ⟨v4, rfl, ho4, hb4⟩
    have O4 := Lib.hid ho4
    have V3 := Lib.hid (X3.out.below hb4 X3.out.lt)
    have V4 := Lib.hid (Y3.out.below hb4 Y3.out.lt)
    have L4 := Lib.hid (L3.out.trans (hb4.mono L3.out.size))
    obtain ⟨A4, c4, rfl⟩ := ho4.shape
    obtain ⟨m, hm⟩ : ∃ m, m = (lay (K : Int)).length := ⟨_, rfl⟩
    have hm4 : m ≤ 4 := by
      rw [hm]; unfold lay
      repeat' split
      all_goals simp
    obtain ⟨B0, hB0⟩ : ∃ B, B = W3.heap.size := ⟨_, rfl⟩
    have hB0l : w2.heap.size < B0 := by rw [hB0]; exact X3.out.lt
    rw [← hm, ← hB0] at O4
    rw [← hm]
    have HMM2 := Lib.hid hm
    obtain ⟨b3, hb3⟩ : ∃ b, b = w2.heap.size := ⟨_, rfl⟩
    rw [← hb3] at V3 hne hB0l ⊢
    clear ho4 hb4 X3 Y3 L3 hm hB0 hb3
    go_wp2
    go_loopw [14, 73] (fun ps i wr => ∃ (j pos : Nat) (v : OD), j ≤ m ∧ i = .int .i64 (j : Int) ∧ ps = .int .i64 (pos : Int) ∧ pos ≤ 20 * j ∧ Hid (decF (fun n => n == 1) t (lay (K : Int)) 0 (OD.new (K : Int) []) = decF (fun n => n == 1) t ((lay (K : Int)).drop j) pos v) ∧ Hid v.wf ∧ Hid (v.ids = []) ∧
      Hid (Blk wr b3 27 (voC v (.slice none 0 0))) ∧ Hid (Blk wr w.heap.size 27 (voC (OD.new 0 []) (.slice none 0 0))) ∧ Hid (Below w.heap.size w wr) ∧ Hid (Obs wr B0 2 (.slice A4 m c4) m (fsC (lay (K : Int))))) (fun _ i _ => m - (intOf i).toNat)
    case atStart => exact ⟨0, 0, _, Nat.zero_le _, rfl, rfl, by omega, Lib.hid rfl, Lib.hid (wf_new (i64R_nat (by omega)) (by simp)), Lib.hid rfl, V3, V4, L4, O4⟩
    case round =>
      clear V3 V4 L4 O4
      obtain ⟨j, pos, v, hj, rfl, rfl, hpos, HD0, HV, HI, V3, V4, LW, O4⟩ := hrel
      by_cases hlt : j < m
      case neg =>
        obtain rfl : j = m := by omega
        have HD : Hid (decF (fun n => n == 1) t (lay (K : Int)) 0 (startO (K : Int) t) = some v) := Lib.hid (by
          rw [HL.out, HD0.out, HMM2.out, List.drop_length]; rfl)
        clear HD0 O4
        have HO := Lib.hid (show r = if optL v = (textAtS s A (2 + (M : Int))).data.toList then some v else none from by rw [HRR.out, HD.out])
        obtain ⟨T, hT⟩ : ∃ T, T = s.extract A (A + 2 + M) := ⟨_, rfl⟩
        have HT2 : Hid ((textAtS s A (2 + (M : Int))).data.toList = T.data.toList) := Lib.hid (by
          rw [show (2 : Int) + (M : Int) = ((2 + M : Nat) : Int) by omega, textAtS_mk (by omega), hT, Nat.add_assoc])
        obtain ⟨R1, hR1⟩ : ∃ R1, R1 = str (optL v) := ⟨_, rfl⟩
        have HR1 := Lib.hid hR1
        have HTT := Lib.hid hT
        have w1 : IntKind.i64.wrap ((A : Int) + 2) = (A : Int) + 2 := IntWalk.i64_in _ (by omega)
        have w2' : IntKind.i64.wrap ((A : Int) + 2 + (M : Int)) = (A : Int) + 2 + (M : Int) := IntWalk.i64_in _ (by omega)
        have g0 : (0 : Int) ≤ (A : Int) + 2 + (M : Int) := by omega
        have g1 : (A : Int) ≤ (A : Int) + 2 + (M : Int) := by omega
        have g2 : (A : Int) + 2 + (M : Int) ≤ (s.size : Int) := by omega
        have g3 : ((A : Int) + 2 + (M : Int)).toNat = A + 2 + M := by omega
        clear hR1 hT
        go_wp2_with fail
        have hTx : s.extract A (A + 2 + M) = T := HTT.out.symm
        refine wp_region_held_drew (S := fun w' => Bx w' b3 (voC v (.slice none 0 0)) ∧ Below wr.heap.size wr w') (by kernel_rfl) ⟨(Bx.of_blk V3.out).drew, (Below.refl _ wr).drew⟩ (fun hHeld => ?_)
        refine wpAnyH_take (i := 0) rfl (by kernel_rfl) (by kernel_rfl) (by kernel_rfl) (fun _ _ _ h => h) (yields_opt (by kernel_rfl) rfl (by rfl) (fun w h => h.1)) (by assumption) ?_
        try simp only [Act.put, List.setIfInBounds_toArray, List.set_cons_zero, List.set_cons_succ]
        refine wpAnyH_take (i := 2) (v := ?_) rfl (by kernel_rfl) (by kernel_rfl) (by kernel_rfl) (fun _ _ _ h => h) (Or.inl ⟨by rfl, ?_⟩) (by assumption) ?_
        rotate_left
        · (intro w hSw; (try dsimp only at hSw); go_simp; try (with_reducible rfl))
        try simp only [Act.put, List.setIfInBounds_toArray, List.set_cons_zero, List.set_cons_succ]
        refine wpAnyH_take (i := 3) (v := ?_) rfl (by kernel_rfl) (by kernel_rfl) (by kernel_rfl) (fun _ _ _ h => h) (Or.inl ⟨by rfl, ?_⟩) (by assumption) ?_
        rotate_left
        · (intro w hSw; (try dsimp only at hSw); go_simp; try (with_reducible rfl))
        try simp only [Act.put, List.setIfInBounds_toArray, List.set_cons_zero, List.set_cons_succ]
        refine wpAnyH_take (i := 4) (v := ?_) rfl (by kernel_rfl) (by kernel_rfl) (by kernel_rfl) (fun _ _ _ h => h) (Or.inl ⟨by rfl, ?_⟩) (by assumption) ?_
        rotate_left
        · (intro w hSw; (try dsimp only at hSw); go_simp; try (with_reducible rfl))
        try simp only [Act.put, List.setIfInBounds_toArray, List.set_cons_zero, List.set_cons_succ]
        refine wpAnyH_take (i := 5) (v := ?_) rfl (by kernel_rfl) (by kernel_rfl) (by kernel_rfl) (fun _ _ _ h => h) (Or.inl ⟨by rfl, ?_⟩) (by assumption) ?_
        rotate_left
        · (intro w hSw; (try dsimp only at hSw); go_simp; try (with_reducible rfl))
        try simp only [Act.put, List.setIfInBounds_toArray, List.set_cons_zero, List.set_cons_succ]
        refine wpAnyH_take (i := 6) (v := ?_) rfl (by kernel_rfl) (by kernel_rfl) (by kernel_rfl) (fun _ _ _ h => h) (Or.inl ⟨by rfl, ?_⟩) (by assumption) ?_
        rotate_left
        · (intro w hSw; (try dsimp only at hSw); go_simp; try (with_reducible rfl))
        try simp only [Act.put, List.setIfInBounds_toArray, List.set_cons_zero, List.set_cons_succ]
        refine wpAnyH_take (i := 7) (v := ?_) rfl (by kernel_rfl) (by kernel_rfl) (by kernel_rfl) (fun _ _ _ h => h) (Or.inl ⟨by rfl, ?_⟩) (by assumption) ?_
        rotate_left
        · (intro w hSw; (try dsimp only at hSw); go_simp; try (with_reducible rfl))
        try simp only [Act.put, List.setIfInBounds_toArray, List.set_cons_zero, List.set_cons_succ]
        refine wpAnyH_take (i := 8) (v := ?_) rfl (by kernel_rfl) (by kernel_rfl) (by kernel_rfl) (fun _ _ _ h => h) (Or.inl ⟨by rfl, ?_⟩) (by assumption) ?_
        rotate_left
        · (intro w hSw; (try dsimp only at hSw); go_simp; try (with_reducible rfl))
        try simp only [Act.put, List.setIfInBounds_toArray, List.set_cons_zero, List.set_cons_succ]
        refine wpAnyH_ready (rs := [1]) (by kernel_rfl) (by simp) ?_
        refine AllReadyH.cons rfl (fun K hK => ?_) AllReadyH.nil
        go_simp
        (go_at_call 38; refine (optText_i v none 0 0 _ (by rw [HI.out]; exact ⟨rfl, .inl ⟨_, _, rfl, rfl⟩⟩) (by omega) HV.out).mono ?_; rw [← HR1.out]; rintro e w5 ⟨rfl, hb5⟩)
        try go_wp2_with fail
        refine hK.out _ _ ?_ (fun hHeld => ?_)
        · exact ⟨(Bx.of_blk V3.out).drew.below hb5, (Below.refl _ wr).drew.trans hb5⟩
        clear hK K
        try simp only [Act.put, List.setIfInBounds_toArray, List.set_cons_zero, List.set_cons_succ]
        have L5 := Lib.hid (LW.out.trans (((Below.refl wr.heap.size wr).drew.trans hb5).mono LW.out.size))
        have Z3 := Lib.hid (V3.out.below ((Below.refl wr.heap.size wr).drew.trans hb5) V3.out.lt)
        have Z4 := Lib.hid (V4.out.below ((Below.refl wr.heap.size wr).drew.trans hb5) V4.out.lt)
        clear hb5
        by_cases ce : R1.data.toList = T.data.toList
        · have d1 : (R1.toList == T.toList) = true := by rw [ByteArray.toList_eq, ByteArray.toList_eq]; simp [ce]
          have HY : Hid (r = some v) := Lib.hid (by rw [HO.out, if_pos]; rw [HT2.out, ← ce, HR1.out, str_toList])
          clear ce
          refine wpAnyH_take (i := 9) (v := ?_) rfl (by kernel_rfl) (by kernel_rfl) (by kernel_rfl) (fun _ _ _ h => h) (Or.inl ⟨by rfl, ?_⟩) (by assumption) ?_
          rotate_left
          · (intro w hSw; (try dsimp only at hSw); go_simp; try (with_reducible rfl))
          try simp only [Act.put, List.setIfInBounds_toArray, List.set_cons_zero, List.set_cons_succ]
          refine wpAnyH_done (by kernel_rfl) ?_ _
          repeat clear hHeld
          go_wp2_with (first | (refine wpl_opt (o := v) rfl (by rfl) (by rfl) (Bx.of_blk Z3.out) ?_) | (refine wpl_store_optM (o := v) rfl (by rfl) (by rfl) (by rfl) Z4.out rfl ?_))
          refine bodyPost_ret (results_opt2 rfl (by rfl) (by rfl) (Bx.setCells (vs := voC v (.slice none 0 0)) Z4.out rfl)) rfl ?_
          rw [HY.out]
          refine ⟨.slice none 0 0, by rw [HA2'.out]; rfl, ?_, HV.out, Below.setCells' L5.out (Nat.le_refl _) _ _⟩
          rw [HI.out]
          exact Obs.nil _ _ _
        · have d1 : (R1.toList == T.toList) = false := by rw [ByteArray.toList_eq, ByteArray.toList_eq]; exact beq_eq_false_iff_ne.2 ce
          have HN : Hid (r = none) := Lib.hid (by rw [HO.out, if_neg]; rw [HT2.out]; intro e; exact ce (by rw [← e, HR1.out, str_toList]))
          clear ce
          refine wpAnyH_take (i := 9) (v := ?_) rfl (by kernel_rfl) (by kernel_rfl) (by kernel_rfl) (fun _ _ _ h => h) (Or.inl ⟨by rfl, ?_⟩) (by assumption) ?_
          rotate_left
          · (intro w hSw; (try dsimp only at hSw); go_simp; try (with_reducible rfl))
          try simp only [Act.put, List.setIfInBounds_toArray, List.set_cons_zero, List.set_cons_succ]
          refine wpAnyH_done (by kernel_rfl) ?_ _
          repeat clear hHeld
          go_wp2_with (refine wpl_store_optM (o := OD.new 0 []) (A := none) (n := 0) (c := 0) rfl (by rfl) (by rfl) (by rfl) Z4.out rfl ?_)
          refine bodyPost_ret (results_opt2 rfl (by rfl) (by rfl) (Bx.setCells (vs := voC (OD.new 0 []) (.slice none 0 0)) Z4.out rfl)) rfl ?_
          rw [HN.out]
          exact read_no L5.out (Nat.le_refl _)
      have hfl : j < (lay (K : Int)).length := by have := HMM2.out; omega
      obtain ⟨i1, i12, w1, w20⟩ := lay_at hfl
      obtain ⟨f0, f1⟩ := fsC_at hfl
      have hdrop : (lay (K : Int)).drop j = (lay (K : Int))[j]'hfl :: (lay (K : Int)).drop (j + 1) := List.drop_eq_getElem_cons hfl
      obtain ⟨⟨i, m2⟩, hf⟩ : ∃ f, f = (lay (K : Int))[j]'hfl := ⟨_, rfl⟩
      rw [← hf] at i1 i12 w1 w20 f0 f1 hdrop
      dsimp only at i1 i12 w1 w20 f0 f1
      have HDR := Lib.hid hdrop
      clear hf hfl hdrop
      obtain ⟨g4, cc4, he⟩ := O4.out.full (by omega)
      simp only [Value.slice.injEq] at he
      obtain ⟨rfl, _, rfl⟩ := he
      have p0 := (O4.out.cellAt f0).1
      have p1 := (O4.out.cellAt f1).1
      clear f0 f1
      go_upto_region 20 with (fail)
      obtain ⟨W2, hW2⟩ : ∃ W2, W2 = wr.alloc (.cells #[.string (nm i), .int .i64 (m2 : Int)] 88) := ⟨_, rfl⟩
      rw [← hW2]
      have Z3 : Hid (Blk W2 b3 27 (voC v (.slice none 0 0))) := Lib.hid (by rw [hW2]; exact V3.out.alloc _)
      have Z4 : Hid (Blk W2 w.heap.size 27 (voC (OD.new 0 []) (.slice none 0 0))) := Lib.hid (by rw [hW2]; exact V4.out.alloc _)
      have LZ : Hid (Below w.heap.size w W2) := Lib.hid (by rw [hW2]; exact LW.out.alloc LW.out.size _)
      have OZ : Hid (Obs W2 B0 2 (.slice (some ⟨g4, 0, none⟩) m c4) m (fsC (lay (K : Int)))) := Lib.hid (by rw [hW2]; exact O4.out.alloc _)
      have NB : Hid (Blk W2 wr.heap.size 88 [.string (nm i), .int .i64 (m2 : Int)]) := Lib.hid (by rw [hW2]; exact Blk.new wr 88 #[.string (nm i), .int .i64 (m2 : Int)])
      have n1 : W2.cell? ⟨wr.heap.size, 1, none⟩ = some (.int .i64 (m2 : Int)) := NB.out.cell 1
      have hg : b3 < wr.heap.size := V3.out.lt
      clear hW2 p0 p1 V3 V4 LW O4
      obtain ⟨q, hq⟩ : ∃ q, q = textAtS t (pos : Int) (m2 : Int) := ⟨_, rfl⟩
      have hqs : q.size ≤ m2 := by rw [hq]; exact textAtS_size t _ _ m2 rfl
      have htm : t.size ≤ 9223372036854775807 := by omega
      go_wp2_with fail
      refine (textAt_i t (pos : Int) (m2 : Int) _ htm).mono ?_
      rw [← hq]
      rintro e w6 ⟨rfl, rfl⟩
      cases bt : textAtB t (pos : Int) (m2 : Int)
      case false =>
        have HN : Hid (r = none) := Lib.hid (by
          rw [HRR.out, HL.out, HD0.out, HDR.out]
          unfold decF
          dsimp only
          rw [bt]
          rfl)
        clear bt hq
        go_wp2_with (refine wpl_store_optM (o := OD.new 0 []) (A := none) (n := 0) (c := 0) rfl (by rfl) (by rfl) (by rfl) Z4.out rfl ?_)
        refine bodyPost_ret (results_opt2 rfl (by rfl) (by rfl) (Bx.setCells (vs := voC (OD.new 0 []) (.slice none 0 0)) Z4.out rfl)) rfl ?_
        rw [HN.out]
        exact read_no LZ.out (Nat.le_refl _)
      obtain ⟨N, hN⟩ : ∃ N, N = numAtN q 0 (m2 : Int) := ⟨_, rfl⟩
      have hNl : N < 281474976710656 := by rw [hN]; exact numAtN_lt q _ _
      have HD2 : Hid (decF (fun n => n == 1) t (lay (K : Int)) 0 (OD.new (K : Int) []) = decF (fun n => n == 1) t ((lay (K : Int)).drop (j + 1)) (pos + m2) (v.put i (N : Int) (N == 1) q)) := Lib.hid (by
        rw [HD0.out, HDR.out]
        conv => lhs; unfold decF
        dsimp only
        rw [bt, if_pos rfl, ← hq, ← hN])
      have HV2 : Hid ((v.put i (N : Int) (N == 1) q).wf) := Lib.hid (wf_put HV.out i (i64R_nat (by omega)) (by unfold maxLen; omega))
      have HI2 : Hid ((v.put i (N : Int) (N == 1) q).ids = []) := Lib.hid (by rw [put_ids]; exact HI.out)
      have HNN := Lib.hid hN
      clear bt hq hN HD0 HDR
      go_wp2_with fail
      refine (numAt_i q 0 (m2 : Int) _ (by omega)).mono ?_
      obtain ⟨nb, hnb⟩ : ∃ nb, nb = numAtB q 0 (m2 : Int) := ⟨_, rfl⟩
      rw [← HNN.out, ← hnb]
      clear hnb
      rintro e W3 ⟨rfl, hb⟩
      have Y3 := Lib.hid (Z3.out.below hb Z3.out.lt)
      have Y4 := Lib.hid (Z4.out.below hb Z4.out.lt)
      have LY := Lib.hid (LZ.out.trans (hb.mono LZ.out.size))
      have OY := Lib.hid (OZ.out.below hb)
      have NB2 := Lib.hid (NB.out.below hb NB.out.lt)
      clear hb Z3 Z4 LZ OZ NB n1
      have n0 : W3.cell? ⟨wr.heap.size, 0, none⟩ = some (.string (nm i)) := NB2.out.cell 0
      have n1 : W3.cell? ⟨wr.heap.size, 1, none⟩ = some (.int .i64 (m2 : Int)) := NB2.out.cell 1
      have KK : ∀ (u : Value), (voC v (.slice none 0 0)).set i u = voC (v.put i (N : Int) (N == 1) q) (.slice none 0 0) →
          Hid (Blk (W3.setCell ⟨b3, i, none⟩ u) b3 27 (voC (v.put i (N : Int) (N == 1) q) (.slice none 0 0))) ∧ Hid (Blk (W3.setCell ⟨b3, i, none⟩ u) w.heap.size 27 (voC (OD.new 0 []) (.slice none 0 0))) ∧
          Hid (Below w.heap.size w (W3.setCell ⟨b3, i, none⟩ u)) ∧ Hid (Obs (W3.setCell ⟨b3, i, none⟩ u) B0 2 (.slice (some ⟨g4, 0, none⟩) m c4) m (fsC (lay (K : Int)))) ∧ (W3.setCell ⟨b3, i, none⟩ u).cell? ⟨wr.heap.size, 1, none⟩ = some (.int .i64 (m2 : Int)) := fun u hu =>
        ⟨(Y3.out.set_ i u).eq hu, Y4.out.far (by dsimp only; omega) _, LY.out.setCell (by dsimp only; omega) _, OY.out.far (by dsimp only; omega) _, (World.cell?_setCell_other _ _ _ _ (fun e => by have := (Addr.mk.inj e).1; omega)).trans n1⟩
      have HK := Lib.hid KK
      clear KK
      obtain ⟨u, hu⟩ : ∃ u, (voC v (.slice none 0 0))[i]? = some u := ⟨_, List.getElem?_eq_getElem (show i < 14 by omega)⟩
      have y0 : W3.cell? ⟨b3, i, none⟩ = some u := (Y3.out.cell i).trans hu
      have fz := Y3.out.frozen i
      clear hu
      by_cases c10 : i = 10
      · subst c10
        have q2 : ((nm 10).toList == [102, 108, 97, 103]) = true := by rw [ByteArray.toList_eq]; decide
        obtain ⟨fb, hfb⟩ : ∃ fb, fb = (N == 1) := ⟨_, rfl⟩
        have q3 : ((N : Int) == 1) = fb := by rw [hfb]; rw [Bool.eq_iff_iff]; simp; omega
        have HR2 := Lib.hid (HK.out (.bool fb) (by rw [hfb]; rfl))
        clear HK hfb
        go_upto_region 29 with (fail)
        obtain ⟨V, hV⟩ : ∃ V, V = W3.setCell ⟨b3, 10, none⟩ (.bool fb) := ⟨_, rfl⟩
        rw [← hV] at HR2
        rw [← hV]
        have n2 := HR2.out.2.2.2.2
        clear hV n0 n1 y0 fz
        go_wp2
        go_roundw
        case rel => exact ⟨j + 1, pos + m2, _, by omega, by go_num, by go_num, by omega, HD2, HV2, HI2, HR2.out.1, HR2.out.2.1, HR2.out.2.2.1, HR2.out.2.2.2.1⟩
        case measure => (simp [intOf]; try omega)
      have q2 := nm_flag i1 i12 c10
      by_cases c11 : i = 11 ∨ i = 12
      · have HT1 : Hid (txP b3 i = some ⟨b3, i, none⟩) := Lib.hid (by rcases c11 with rfl | rfl <;> rfl)
        have HR2 := Lib.hid (HK.out (.string q) (voC_setT _ _ _ c11 _ _ _))
        clear HK c11 c10
        go_wp2_with fail
        refine (text_i b3 i _ i1 i12).mono ?_
        rw [HT1.out]
        rintro e w5 ⟨rfl, rfl⟩
        go_wp2_with fail
        refine (text_i b3 i _ i1 i12).mono ?_
        rw [HT1.out]
        rintro e w5 ⟨rfl, rfl⟩
        go_upto_region 29 with (fail)
        obtain ⟨V, hV⟩ : ∃ V, V = W3.setCell ⟨b3, i, none⟩ (.string q) := ⟨_, rfl⟩
        rw [← hV] at HR2
        rw [← hV]
        have n2 := HR2.out.2.2.2.2
        clear hV n0 n1 y0 fz
        go_wp2
        go_roundw
        case rel => exact ⟨j + 1, pos + m2, _, by omega, by go_num, by go_num, by omega, HD2, HV2, HI2, HR2.out.1, HR2.out.2.1, HR2.out.2.2.1, HR2.out.2.2.2.1⟩
        case measure => (simp [intOf]; try omega)
      · have i9 : i ≤ 9 := by omega
        have HT1 : Hid (txP b3 i = none) := Lib.hid (by unfold txP; rw [if_neg (by omega), if_neg (by omega)])
        have HR2 := Lib.hid (HK.out (.int .i64 (N : Int)) (voC_setN _ _ _ i1 i9 _ _ _))
        clear HK c11 c10
        go_wp2_with fail
        refine (text_i b3 i _ i1 i12).mono ?_
        rw [HT1.out]
        rintro e w5 ⟨rfl, rfl⟩
        go_wp2_with fail
        refine (number_i b3 i _ i1 i9).mono ?_
        rintro e w5 ⟨rfl, rfl⟩
        go_upto_region 29 with (fail)
        obtain ⟨V, hV⟩ : ∃ V, V = W3.setCell ⟨b3, i, none⟩ (.int .i64 (N : Int)) := ⟨_, rfl⟩
        rw [← hV] at HR2
        rw [← hV]
        have n2 := HR2.out.2.2.2.2
        clear hV n0 n1 y0 fz
        go_wp2
        go_roundw
        case rel => exact ⟨j + 1, pos + m2, _, by omega, by go_num, by go_num, by omega, HD2, HV2, HI2, HR2.out.1, HR2.out.2.1, HR2.out.2.2.1, HR2.out.2.2.2.1⟩
        case measure => (simp [intOf]; try omega)
end Go.Proofs.Ytkgbkgonlopciaa

/- The walk of ReadSeg of the reference. -/
import Derived.Test.YtkgbkgonlopciaaA32
import Derived.Test.YtkgbkgonlopciaaA31
import Derived.Deep.Cut
import Derived.Outline
import Derived.Deep.QuietTactic
import Derived.BigQuiet
import Derived.Deep.RegionHeld
namespace Go.Proofs.Ytkgbkgonlopciaa
open Go.RowKit
set_option linter.unusedVariables false
set_option linter.unusedSimpArgs false
/-- the first k numbers that were read -/
def numsK (s : ByteArray) (k : Nat) : List Int := (List.range k).map fun j => ((numAtN s (posN j : Nat) (wdN j : Nat) : Nat) : Int)
theorem numsK_succ (s : ByteArray) (k : Nat) : (numsK s (k + 1)).map vn = (numsK s k).map vn ++ [vn ((numAtN s (posN k : Nat) (wdN k : Nat) : Nat) : Int)] := by
  unfold numsK
  rw [List.range_succ, List.map_append, List.map_append]
  rfl
theorem numsK_at (s : ByteArray) {k j : Nat} (h : j < k) : ((numsK s k).map vn)[j]? = some (.int .i64 ((numAtN s (posN j : Nat) (wdN j : Nat) : Nat) : Int)) := by
  unfold numsK
  simp [h, vn]
theorem noX_seg (s : ByteArray) (d : ByteArray) (v : Value) (os : List OD) : vxC (segOf s os d) v = vxC (segOf s [] d) v := rfl
set_option maxRecDepth 100000 in
set_option maxHeartbeats 6400000 in
theorem readSeg_s (s : ByteArray) (w : World) (hs : s.size ≤ 1048576) :
    Calls Try.prog 48 #[.string s] w (GivesSeg (readSS s) w) := by
  obtain ⟨r, hr⟩ : ∃ r, r = readSS s := ⟨_, rfl⟩
  rw [← hr]
  have HR := Lib.hid hr
  have hs63 : s.size ≤ 9223372036854775807 := by omega
  clear hr
  obtain ⟨i0, hi, hz0, hz1, hz2⟩ := info_parts i64_info
  go_enter Try.func48, Try.ntmps48
  go_wp2
  obtain ⟨F, hF⟩ : ∃ F : List Value, F = [.int .i64 4, .int .i64 4, .int .i64 2, .int .i64 2, .int .i64 4, .int .i64 4, .int .i64 1, .int .i64 1] := ⟨_, rfl⟩
  obtain ⟨W0, hW0⟩ : ∃ W0, W0 = (w.alloc (.cells (vxC noX (.slice none 0 0)).toArray 37)).alloc (.cells F.toArray 3) := ⟨_, rfl⟩
  obtain ⟨W, hW⟩ : ∃ W, W = W0.alloc (.cells #[] 3) := ⟨_, rfl⟩
  change Code.wp _ _ _ _ (((w.alloc (.cells (vxC noX (.slice none 0 0)).toArray 37)).alloc (.cells [Value.int .i64 4, .int .i64 4, .int .i64 2, .int .i64 2, .int .i64 4, .int .i64 4, .int .i64 1, .int .i64 1].toArray 3)).alloc (.cells #[] 3))
  rw [← hF, ← hW0, ← hW]
  have hz : W0.heap.size = w.heap.size + 2 := by rw [hW0]; simp
  have Y2 : Hid (Blk W w.heap.size 37 (vxC noX (.slice none 0 0))) := Lib.hid (by rw [hW, hW0]; exact ((Blk.new w 37 (vxC noX (.slice none 0 0)).toArray).alloc _).alloc _)
  have FR : Hid (∀ k, k < 8 → W.cell? ⟨w.heap.size + 1, k, none⟩ = some (.int .i64 ((wdN k : Nat) : Int))) := Lib.hid (fun k hk => by
    have h1 := (Bx.new (w.alloc (.cells (vxC noX (.slice none 0 0)).toArray 37)) F.toArray 3).alloc (.cells #[] 3)
    rw [← hW0, ← hW, hF] at h1
    simp only [World.size_alloc] at h1
    match k, hk with
    | 0, _ => exact h1.2 0 _ rfl
    | 1, _ => exact h1.2 1 _ rfl
    | 2, _ => exact h1.2 2 _ rfl
    | 3, _ => exact h1.2 3 _ rfl
    | 4, _ => exact h1.2 4 _ rfl
    | 5, _ => exact h1.2 5 _ rfl
    | 6, _ => exact h1.2 6 _ rfl
    | 7, _ => exact h1.2 7 _ rfl)
  have OV0 : Hid (Obs W (w.heap.size + 2) 1 (.slice (some ⟨w.heap.size + 1 + 1, 0, none⟩) 0 0) 0 ((numsK s 0).map vn)) := Lib.hid (by have h1 := obs_emptyI W0 3 1 (w.heap.size + 2) (by omega); rw [hz] at h1; rw [hW]; exact h1)
  have L1 : Hid (Below w.heap.size w W) := Lib.hid (by rw [hW, hW0]; exact (((Below.refl w.heap.size w).alloc (Nat.le_refl _) _).alloc (by simp) _).alloc (by simp; omega) _)
  have HS1 : Hid (w.heap.size + 3 ≤ W.heap.size) := Lib.hid (by rw [hW]; simp; omega)
  clear hW hW0 hF hz
  go_loopw [5, 6, 7] (fun v at_ i wr => ∃ (k c : Nat) (A : Option Addr), k ≤ 8 ∧ i = .int .i64 (k : Int) ∧ at_ = .int .i64 ((posN k : Nat) : Int) ∧ v = .slice A k c ∧ Hid (posN k ≤ s.size) ∧ Hid (Obs wr (w.heap.size + 2) 1 (.slice A k c) k ((numsK s k).map vn)) ∧ Hid (Blk wr w.heap.size 37 (vxC noX (.slice none 0 0))) ∧ Hid (∀ k, k < 8 → wr.cell? ⟨w.heap.size + 1, k, none⟩ = some (.int .i64 ((wdN k : Nat) : Int))) ∧ Hid (w.heap.size + 3 ≤ wr.heap.size) ∧ Hid (Below w.heap.size w wr)) (fun _ _ i _ => 8 - (intOf i).toNat)
  case atStart => exact ⟨0, 0, _, Nat.zero_le _, rfl, rfl, rfl, Lib.hid (Nat.zero_le _), OV0, Y2, FR, HS1, L1⟩
  case round =>
    clear Y2 FR HS1 L1 OV0
    obtain ⟨k, c, A, hk, rfl, rfl, rfl, HPS, OV, Y2, FR, HS1, HN⟩ := hrel
    by_cases hlt : k < 8
    · obtain ⟨hst, hw1, hw4, h22⟩ := pos_step hlt
      have f1 := FR.out k hlt
      obtain ⟨P, hP⟩ : ∃ P, P = posN k := ⟨_, rfl⟩
      obtain ⟨M, hM⟩ : ∃ M, M = wdN k := ⟨_, rfl⟩
      rw [← hP, ← hM] at hst
      rw [← hM] at hw1 hw4 f1
      rw [← hP]
      have HP := Lib.hid hP
      have HM := Lib.hid hM
      have HST := Lib.hid hst
      have H22 := Lib.hid h22
      have wPM : IntKind.i64.wrap ((P : Int) + (M : Int)) = (P : Int) + (M : Int) := IntWalk.i64_in _ (by omega)
      clear hP hM hst h22
      go_wp2_with fail
      refine (numAt_s s (P : Int) (M : Int) _ hs63).mono ?_
      obtain ⟨N, hN⟩ : ∃ N, N = numAtN s (P : Int) (M : Int) := ⟨_, rfl⟩
      obtain ⟨b, hb⟩ : ∃ b, b = numAtB s (P : Int) (M : Int) := ⟨_, rfl⟩
      rw [← hN, ← hb]
      have HNN := Lib.hid hN
      have HBB := Lib.hid hb
      have hNl : N < 281474976710656 := by rw [hN]; exact numAtN_lt s _ _
      clear hN hb f1
      rintro e W2 ⟨rfl, hb⟩
      have V2 := Lib.hid (Y2.out.below hb Y2.out.lt)
      have OV2 := Lib.hid (OV.out.below hb)
      have VF : Hid (∀ k, k < 8 → W2.cell? ⟨w.heap.size + 1, k, none⟩ = some (.int .i64 ((wdN k : Nat) : Int))) := Lib.hid (fun k hk => by
        have h1 := HS1.out
        exact (hb.cell (p := ⟨w.heap.size + 1, k, none⟩) (by dsimp only; omega)).trans (FR.out k hk))
      have L2 := Lib.hid (HN.out.trans (hb.mono HN.out.size))
      have S2 : Hid (w.heap.size + 3 ≤ W2.heap.size) := Lib.hid (Nat.le_trans HS1.out hb.size)
      clear hb Y2 OV FR HN HS1
      cases b
      case false =>
        have HNo : Hid (r = none) := Lib.hid (by
          rw [HR.out]
          unfold readSS
          rw [if_neg]
          intro h
          have h1 := HBB.out
          rw [numAtB_nat hw1 (by omega)] at h1
          have h2 := H22.out
          have h3 := HST.out
          have h4 : P + M ≤ s.size := by omega
          rw [decide_eq_true h4] at h1
          cases h1)
        go_wp2_with (refine wpl_store_segM (q := noX) (A := none) (n := 0) (c := 0) rfl (by rfl) (by rfl) (by rfl) V2.out rfl ?_)
        refine bodyPost_ret (results_seg2 rfl (by rfl) (by rfl) (Bx.setCells (vs := vxC noX (.slice none 0 0)) V2.out rfl)) rfl ?_
        rw [HNo.out]
        exact seg_no L2.out
      have HPS2 : Hid (posN (k + 1) ≤ s.size) := Lib.hid (by
        have h1 := HBB.out
        rw [numAtB_nat hw1 (by omega)] at h1
        have h2 := HST.out
        have := of_decide_eq_true h1.symm
        omega)
      have HNX : Hid ((P : Int) + (M : Int) = ((posN (k + 1) : Nat) : Int)) := Lib.hid (by rw [HST.out]; omega)
      have HVN : Hid (vn ((numAtN s (posN k : Nat) (wdN k : Nat) : Nat) : Int) = .int .i64 (N : Int)) := Lib.hid (by rw [HNN.out, HP.out, HM.out]; rfl)
      go_upto_region 11 with (at_builtin; refine wpList_append_obs2 _ rfl _ _ 22 rfl (w.heap.size + 2) 3 i0 (.int .i64 0) 1 8 Try.underlying22 hi hz0 hz1 hz2 rfl (by decide) _ k _ rfl (OV2.out.alloc _) (w.heap.size + 2) _ 1 _ rfl (obs_one W2 3 (.int .i64 (N : Int)) (w.heap.size + 2) (Nat.le_of_succ_le S2.out)) (by intro u hu; obtain rfl := List.mem_singleton.1 hu; rfl) (by unfold maxLen; omega) (by omega) (by have := S2.out; simp; omega) ?_; intro v3 w3 hown3 hb3 hg3; have O3 := Lib.hid hown3; have HB3 := Lib.hid hb3; obtain ⟨A3, c3, rfl⟩ := O3.out.shape; clear hown3 hb3 hg3)
      have O3' : Hid (Obs w3 (w.heap.size + 2) 1 (.slice A3 (k + 1) c3) (k + 1) ((numsK s (k + 1)).map vn)) := Lib.hid (by rw [numsK_succ, HVN.out]; exact O3.out)
      have U2 := Lib.hid ((V2.out.alloc (.cells #[.int .i64 (N : Int)] 3)).below HB3.out (by omega))
      have UF : Hid (∀ k, k < 8 → w3.cell? ⟨w.heap.size + 1, k, none⟩ = some (.int .i64 ((wdN k : Nat) : Int))) := Lib.hid (fun k hk => by
        have h1 := S2.out
        refine (HB3.out.cell (p := ⟨w.heap.size + 1, k, none⟩) (by dsimp only; omega)).trans ?_
        exact ((Below.refl W2.heap.size W2).alloc (Nat.le_refl _) (.cells #[.int .i64 (N : Int)] 3)).cell (p := ⟨w.heap.size + 1, k, none⟩) (by dsimp only; omega) |>.trans (VF.out k hk))
      have UL := Lib.hid ((L2.out.alloc L2.out.size (.cells #[.int .i64 (N : Int)] 3)).trans (HB3.out.mono (by omega)))
      have US : Hid (w.heap.size + 3 ≤ w3.heap.size) := Lib.hid (Nat.le_trans (by have := S2.out; simp; omega) HB3.out.size)
      clear O3 HB3 V2 VF L2 S2 OV2
      have f1 : w3.cell? ⟨w.heap.size + 1, k, none⟩ = some (.int .i64 (M : Int)) := by rw [HM.out]; exact UF.out k hlt
      go_wp2
      go_roundw
      case rel => exact ⟨k + 1, c3, A3, by omega, by go_num, by rw [HNX.out], rfl, HPS2, O3', U2, UF, US, UL⟩
      case measure => (simp [intOf]; try omega)
    · have hk8 : k = 8 := by omega
      rw [hk8] at HPS OV
      have HNV : Hid (Rd wr 1 (.slice A 8 c) 8 ((numsK s 8).map vn)) := Lib.hid OV.out.rd
      obtain ⟨g, _, e0⟩ := OV.out.full (by omega)
      simp only [Value.slice.injEq] at e0
      obtain ⟨rfl, _, rfl⟩ := e0
      have hgl := (OV.out.lt g rfl).2
      have hgB := (OV.out.lt g rfl).1
      obtain ⟨X, hX⟩ : ∃ X, X = segOf s [] ⟨#[]⟩ := ⟨_, rfl⟩
      have HX := Lib.hid hX
      obtain ⟨n8, hn8⟩ : ∃ n, n = numAtN s 21 1 := ⟨_, rfl⟩
      have hn256 : n8 < 256 := by rw [hn8]; exact numAtN_1 s 21
      have x0 : wr.cell? ⟨g, 0, none⟩ = some (.int .i64 X.fr) := by rw [hX]; exact (OV.out.cellAt (numsK_at s (by omega))).1
      have x1 : wr.cell? ⟨g, 1, none⟩ = some (.int .i64 X.tt) := by rw [hX]; exact (OV.out.cellAt (numsK_at s (by omega))).1
      have x2 : wr.cell? ⟨g, 2, none⟩ = some (.int .i64 X.po) := by rw [hX]; exact (OV.out.cellAt (numsK_at s (by omega))).1
      have x3 : wr.cell? ⟨g, 3, none⟩ = some (.int .i64 X.pe) := by rw [hX]; exact (OV.out.cellAt (numsK_at s (by omega))).1
      have x4 : wr.cell? ⟨g, 4, none⟩ = some (.int .i64 X.sq) := by rw [hX]; exact (OV.out.cellAt (numsK_at s (by omega))).1
      have x5 : wr.cell? ⟨g, 5, none⟩ = some (.int .i64 X.ak) := by rw [hX]; exact (OV.out.cellAt (numsK_at s (by omega))).1
      have x6 : wr.cell? ⟨g, 6, none⟩ = some (.int .i64 X.fg) := by rw [hX]; exact (OV.out.cellAt (numsK_at s (by omega))).1
      have X7 : Hid (wr.cell? ⟨g, 7, none⟩ = some (.int .i64 (n8 : Int))) := Lib.hid (by rw [hn8]; exact (OV.out.cellAt (numsK_at s (by omega))).1)
      have H22 : Hid (22 ≤ s.size) := HPS
      have HRR : Hid (r = match readN s (min n8 5) with
          | some r => if tailB s r.2 = true ∧ r.2 + 2 + numAtN s r.2 2 = s.size ∧ segOk (segOf s r.1 (textAtS s (r.2 + 2 : Nat) (numAtN s r.2 2))) = true ∧ r.1.length = n8 then some (segOf s r.1 (textAtS s (r.2 + 2 : Nat) (numAtN s r.2 2))) else none
          | none => none) := Lib.hid (by rw [HR.out]; unfold readSS; rw [if_pos H22.out, ← hn8]; rfl)
      have keep : ∀ w', Below wr.heap.size wr w' → w'.cell? ⟨g, 0, none⟩ = some (.int .i64 X.fr) ∧ w'.cell? ⟨g, 1, none⟩ = some (.int .i64 X.tt) ∧ w'.cell? ⟨g, 2, none⟩ = some (.int .i64 X.po) ∧ w'.cell? ⟨g, 3, none⟩ = some (.int .i64 X.pe) ∧ w'.cell? ⟨g, 4, none⟩ = some (.int .i64 X.sq) ∧ w'.cell? ⟨g, 5, none⟩ = some (.int .i64 X.ak) ∧ w'.cell? ⟨g, 6, none⟩ = some (.int .i64 X.fg) := fun w' hb =>
        ⟨(hb.cell (p := ⟨g, 0, none⟩) hgl).trans x0, (hb.cell (p := ⟨g, 1, none⟩) hgl).trans x1, (hb.cell (p := ⟨g, 2, none⟩) hgl).trans x2, (hb.cell (p := ⟨g, 3, none⟩) hgl).trans x3, (hb.cell (p := ⟨g, 4, none⟩) hgl).trans x4, (hb.cell (p := ⟨g, 5, none⟩) hgl).trans x5, (hb.cell (p := ⟨g, 6, none⟩) hgl).trans x6⟩
      have HKP := Lib.hid keep
      have HGL := Lib.hid hgl
      have HGB := Lib.hid hgB
      rw [show ((posN k : Nat) : Int) = ((22 : Nat) : Int) by rw [hk8]; rfl, show ((k : Nat) : Int) = 8 by omega, hk8]
      clear hk8 hk hlt keep x0 x1 x2 x3 x4 x5 x6 hX hn8 HPS HR FR HNV
      go_wp2_with fail
      refine wp_region_held_drew (S := fun w' => w'.cell? ⟨g, 0, none⟩ = some (.int .i64 X.fr) ∧ w'.cell? ⟨g, 1, none⟩ = some (.int .i64 X.tt) ∧ w'.cell? ⟨g, 2, none⟩ = some (.int .i64 X.po) ∧ w'.cell? ⟨g, 3, none⟩ = some (.int .i64 X.pe) ∧ w'.cell? ⟨g, 4, none⟩ = some (.int .i64 X.sq) ∧ w'.cell? ⟨g, 5, none⟩ = some (.int .i64 X.ak) ∧ w'.cell? ⟨g, 6, none⟩ = some (.int .i64 X.fg)) (by kernel_rfl) (HKP.out _ (Below.refl wr.heap.size wr).drew) (fun hHeld => ?_)
      refine wpAnyH_take (i := 0) (oi := ⟨some 49, _, _, _, _, _⟩) (v := ?_) rfl (by kernel_rfl) (by kernel_rfl) (by kernel_rfl) (fun _ _ _ h => h) (Or.inl ⟨by kernel_rfl, ?_⟩) (by assumption) ?_
      rotate_left
      · (intro w hSw; (try dsimp only at hSw); go_simp; try (with_reducible rfl))
      try simp only [Act.put, List.setIfInBounds_toArray, List.set_cons_zero, List.set_cons_succ]
      refine wpAnyH_take (i := 1) (oi := ⟨some 50, _, _, _, _, _⟩) (v := ?_) rfl (by kernel_rfl) (by kernel_rfl) (by kernel_rfl) (fun _ _ _ h => h) (Or.inl ⟨by kernel_rfl, ?_⟩) (by assumption) ?_
      rotate_left
      · (intro w hSw; (try dsimp only at hSw); go_simp; try (with_reducible rfl))
      try simp only [Act.put, List.setIfInBounds_toArray, List.set_cons_zero, List.set_cons_succ]
      refine wpAnyH_take (i := 2) (oi := ⟨some 51, _, _, _, _, _⟩) (v := ?_) rfl (by kernel_rfl) (by kernel_rfl) (by kernel_rfl) (fun _ _ _ h => h) (Or.inl ⟨by kernel_rfl, ?_⟩) (by assumption) ?_
      rotate_left
      · (intro w hSw; (try dsimp only at hSw); go_simp; try (with_reducible rfl))
      try simp only [Act.put, List.setIfInBounds_toArray, List.set_cons_zero, List.set_cons_succ]
      refine wpAnyH_take (i := 3) (oi := ⟨some 52, _, _, _, _, _⟩) (v := ?_) rfl (by kernel_rfl) (by kernel_rfl) (by kernel_rfl) (fun _ _ _ h => h) (Or.inl ⟨by kernel_rfl, ?_⟩) (by assumption) ?_
      rotate_left
      · (intro w hSw; (try dsimp only at hSw); go_simp; try (with_reducible rfl))
      try simp only [Act.put, List.setIfInBounds_toArray, List.set_cons_zero, List.set_cons_succ]
      refine wpAnyH_take (i := 4) (oi := ⟨some 53, _, _, _, _, _⟩) (v := ?_) rfl (by kernel_rfl) (by kernel_rfl) (by kernel_rfl) (fun _ _ _ h => h) (Or.inl ⟨by kernel_rfl, ?_⟩) (by assumption) ?_
      rotate_left
      · (intro w hSw; (try dsimp only at hSw); go_simp; try (with_reducible rfl))
      try simp only [Act.put, List.setIfInBounds_toArray, List.set_cons_zero, List.set_cons_succ]
      refine wpAnyH_take (i := 5) (oi := ⟨some 54, _, _, _, _, _⟩) (v := ?_) rfl (by kernel_rfl) (by kernel_rfl) (by kernel_rfl) (fun _ _ _ h => h) (Or.inl ⟨by kernel_rfl, ?_⟩) (by assumption) ?_
      rotate_left
      · (intro w hSw; (try dsimp only at hSw); go_simp; try (with_reducible rfl))
      try simp only [Act.put, List.setIfInBounds_toArray, List.set_cons_zero, List.set_cons_succ]
      refine wpAnyH_take (i := 6) (oi := ⟨some 55, _, _, _, _, _⟩) (v := ?_) rfl (by kernel_rfl) (by kernel_rfl) (by kernel_rfl) (fun _ _ _ h => h) (Or.inl ⟨by kernel_rfl, ?_⟩) (by assumption) ?_
      rotate_left
      · (intro w hSw; (try dsimp only at hSw); go_simp; try (with_reducible rfl))
      try simp only [Act.put, List.setIfInBounds_toArray, List.set_cons_zero, List.set_cons_succ]
      refine wpAnyH_take (i := 7) (oi := ⟨some 56, _, _, _, _, _⟩) (v := ?_) rfl (by kernel_rfl) (by kernel_rfl) (by kernel_rfl) (fun _ _ _ h => h) (Or.inl ⟨by kernel_rfl, ?_⟩) (by assumption) ?_
      rotate_left
      · (intro w hSw; (try dsimp only at hSw); go_simp; try (with_reducible rfl))
      try simp only [Act.put, List.setIfInBounds_toArray, List.set_cons_zero, List.set_cons_succ]
      refine wpAnyH_take (i := 8) (oi := ⟨some 57, _, _, _, _, _⟩) (v := ?_) rfl (by kernel_rfl) (by kernel_rfl) (by kernel_rfl) (fun _ _ _ h => h) (Or.inl ⟨by kernel_rfl, ?_⟩) (by assumption) ?_
      rotate_left
      · (intro w hSw; (try dsimp only at hSw); go_simp; try (with_reducible rfl))
      try simp only [Act.put, List.setIfInBounds_toArray, List.set_cons_zero, List.set_cons_succ]
      refine wpAnyH_take (i := 9) (oi := ⟨some 58, _, _, _, _, _⟩) (v := ?_) rfl (by kernel_rfl) (by kernel_rfl) (by kernel_rfl) (fun _ _ _ h => h) (Or.inl ⟨by kernel_rfl, ?_⟩) (by assumption) ?_
      rotate_left
      · (intro w hSw; (try dsimp only at hSw); go_simp; try (with_reducible rfl))
      try simp only [Act.put, List.setIfInBounds_toArray, List.set_cons_zero, List.set_cons_succ]
      refine wpAnyH_take (i := 10) (oi := ⟨some 59, _, _, _, _, _⟩) (v := ?_) rfl (by kernel_rfl) (by kernel_rfl) (by kernel_rfl) (fun _ _ _ h => h) (Or.inl ⟨by kernel_rfl, ?_⟩) (by assumption) ?_
      rotate_left
      · (intro w hSw; (try dsimp only at hSw); go_simp; try (with_reducible rfl))
      try simp only [Act.put, List.setIfInBounds_toArray, List.set_cons_zero, List.set_cons_succ]
      refine wpAnyH_take (i := 11) (oi := ⟨some 60, _, _, _, _, _⟩) (v := ?_) rfl (by kernel_rfl) (by kernel_rfl) (by kernel_rfl) (fun _ _ _ h => h) (Or.inl ⟨by kernel_rfl, ?_⟩) (by assumption) ?_
      rotate_left
      · (intro w hSw; (try dsimp only at hSw); go_simp; try (with_reducible rfl))
      try simp only [Act.put, List.setIfInBounds_toArray, List.set_cons_zero, List.set_cons_succ]
      refine wpAnyH_take (i := 12) (oi := ⟨some 61, _, _, _, _, _⟩) (v := ?_) rfl (by kernel_rfl) (by kernel_rfl) (by kernel_rfl) (fun _ _ _ h => h) (Or.inl ⟨by kernel_rfl, ?_⟩) (by assumption) ?_
      rotate_left
      · (intro w hSw; (try dsimp only at hSw); go_simp; try (with_reducible rfl))
      try simp only [Act.put, List.setIfInBounds_toArray, List.set_cons_zero, List.set_cons_succ]
      refine wpAnyH_take (i := 13) (oi := ⟨some 62, _, _, _, _, _⟩) (v := ?_) rfl (by kernel_rfl) (by kernel_rfl) (by kernel_rfl) (fun _ _ _ h => h) (Or.inl ⟨by kernel_rfl, ?_⟩) (by assumption) ?_
      rotate_left
      · (intro w hSw; (try dsimp only at hSw); go_simp; try (with_reducible rfl))
      try simp only [Act.put, List.setIfInBounds_toArray, List.set_cons_zero, List.set_cons_succ]
      refine wpAnyH_take (i := 14) (oi := ⟨some 63, _, _, _, _, _⟩) (v := ?_) rfl (by kernel_rfl) (by kernel_rfl) (by kernel_rfl) (fun _ _ _ h => h) (Or.inl ⟨by kernel_rfl, ?_⟩) (by assumption) ?_
      rotate_left
      · (intro w hSw; (try dsimp only at hSw); go_simp; try (with_reducible rfl))
      try simp only [Act.put, List.setIfInBounds_toArray, List.set_cons_zero, List.set_cons_succ]
      refine wpAnyH_take (i := 15) (oi := ⟨some 64, _, _, _, _, _⟩) (v := ?_) rfl (by kernel_rfl) (by kernel_rfl) (by kernel_rfl) (fun _ _ _ h => h) (Or.inl ⟨by kernel_rfl, ?_⟩) (by assumption) ?_
      rotate_left
      · (intro w hSw; (try dsimp only at hSw); go_simp; try (with_reducible rfl))
      try simp only [Act.put, List.setIfInBounds_toArray, List.set_cons_zero, List.set_cons_succ]
      refine wpAnyH_take (i := 16) (oi := ⟨some 65, _, _, _, _, _⟩) (v := ?_) rfl (by kernel_rfl) (by kernel_rfl) (by kernel_rfl) (fun _ _ _ h => h) (Or.inl ⟨by kernel_rfl, ?_⟩) (by assumption) ?_
      rotate_left
      · (intro w hSw; (try dsimp only at hSw); go_simp; try (with_reducible rfl))
      try simp only [Act.put, List.setIfInBounds_toArray, List.set_cons_zero, List.set_cons_succ]
      refine wpAnyH_take (i := 17) (oi := ⟨some 66, _, _, _, _, _⟩) (v := ?_) rfl (by kernel_rfl) (by kernel_rfl) (by kernel_rfl) (fun _ _ _ h => h) (Or.inl ⟨by kernel_rfl, ?_⟩) (by assumption) ?_
      rotate_left
      · (intro w hSw; (try dsimp only at hSw); go_simp; try (with_reducible rfl))
      try simp only [Act.put, List.setIfInBounds_toArray, List.set_cons_zero, List.set_cons_succ]
      refine wpAnyH_take (i := 18) (oi := ⟨some 67, _, _, _, _, _⟩) (v := ?_) rfl (by kernel_rfl) (by kernel_rfl) (by kernel_rfl) (fun _ _ _ h => h) (Or.inl ⟨by kernel_rfl, ?_⟩) (by assumption) ?_
      rotate_left
      · (intro w hSw; (try dsimp only at hSw); go_simp; try (with_reducible rfl))
      try simp only [Act.put, List.setIfInBounds_toArray, List.set_cons_zero, List.set_cons_succ]
      refine wpAnyH_take (i := 19) (oi := ⟨some 68, _, _, _, _, _⟩) (v := ?_) rfl (by kernel_rfl) (by kernel_rfl) (by kernel_rfl) (fun _ _ _ h => h) (Or.inl ⟨by kernel_rfl, ?_⟩) (by assumption) ?_
      rotate_left
      · (intro w hSw; (try dsimp only at hSw); go_simp; try (with_reducible rfl))
      try simp only [Act.put, List.setIfInBounds_toArray, List.set_cons_zero, List.set_cons_succ]
      refine wpAnyH_take (i := 20) (oi := ⟨some 69, _, _, _, _, _⟩) (v := ?_) rfl (by kernel_rfl) (by kernel_rfl) (by kernel_rfl) (fun _ _ _ h => h) (Or.inl ⟨by kernel_rfl, ?_⟩) (by assumption) ?_
      rotate_left
      · (intro w hSw; (try dsimp only at hSw); go_simp; try (with_reducible rfl))
      try simp only [Act.put, List.setIfInBounds_toArray, List.set_cons_zero, List.set_cons_succ]
      refine wpAnyH_take (i := 21) (oi := ⟨some 70, _, _, _, _, _⟩) (v := ?_) rfl (by kernel_rfl) (by kernel_rfl) (by kernel_rfl) (fun _ _ _ h => h) (Or.inl ⟨by kernel_rfl, ?_⟩) (by assumption) ?_
      rotate_left
      · (intro w hSw; (try dsimp only at hSw); go_simp; try (with_reducible rfl))
      try simp only [Act.put, List.setIfInBounds_toArray, List.set_cons_zero, List.set_cons_succ]
      refine wpAnyH_ready (rs := [22]) (by kernel_rfl) (by simp) ?_
      refine AllReadyH.cons (o := ⟨some 10, _, _, _, _, _⟩) rfl (fun K hK => ?_) AllReadyH.nil
      go_simp
      try go_wp2_with fail
      refine hK.out _ _ ?_ (fun hHeld => ?_)
      · exact HKP.out _ ((Below.refl wr.heap.size wr).drew.alloc (Nat.le_refl _) _)
      clear hK K
      try simp only [Act.put, List.setIfInBounds_toArray, List.set_cons_zero, List.set_cons_succ]
      refine wpAnyH_ready (rs := [23]) (by kernel_rfl) (by simp) ?_
      refine AllReadyH.cons rfl (fun K hK => ?_) AllReadyH.nil
      go_simp
      try go_wp2_with fail
      refine hK.out _ _ ?_ (fun hHeld => ?_)
      · exact HKP.out _ ((Below.refl wr.heap.size wr).drew.alloc (Nat.le_refl _) _)
      clear hK K
      try simp only [Act.put, List.setIfInBounds_toArray, List.set_cons_zero, List.set_cons_succ]
      refine wpAnyH_done (by kernel_rfl) ?_ _
      repeat clear hHeld
      obtain ⟨W3, hW3⟩ : ∃ W, W = (wr.alloc (.cells ([.int .i64 X.fr, .int .i64 X.tt, .int .i64 X.po, .int .i64 X.pe, .int .i64 X.sq, .int .i64 X.ak, .int .i64 X.fg, .slice none 0 0, .string ⟨#[]⟩] : List Value).toArray 37)).drew := ⟨_, rfl⟩
      change Exit.then _ _ Exit.normal _ ((wr.alloc (.cells ([.int .i64 X.fr, .int .i64 X.tt, .int .i64 X.po, .int .i64 X.pe, .int .i64 X.sq, .int .i64 X.ak, .int .i64 X.fg, .slice none 0 0, .string ⟨#[]⟩] : List Value).toArray 37)).drew)
      rw [← hW3]
      have hda : X.da = ⟨#[]⟩ := by rw [HX.out]; rfl
      rw [show ([.int .i64 X.fr, .int .i64 X.tt, .int .i64 X.po, .int .i64 X.pe, .int .i64 X.sq, .int .i64 X.ak, .int .i64 X.fg, .slice none 0 0, .string ⟨#[]⟩] : List Value) = vxC X (.slice none 0 0) by unfold vxC; rw [hda]] at hW3
      clear hda
      obtain ⟨bx, hbx⟩ : ∃ b, b = wr.heap.size := ⟨_, rfl⟩
      have E3 := Lib.hid ((Below.refl wr.heap.size wr).alloc (Nat.le_refl _) (.cells (vxC X (.slice none 0 0)).toArray 37)).drew
      have Z4 := Lib.hid (Blk.new wr 37 (vxC X (.slice none 0 0)).toArray).drew
      rw [← hW3] at E3 Z4
      have Z2 := Lib.hid (Y2.out.below E3.out Y2.out.lt)
      have Z7 : Hid (W3.cell? ⟨g, 7, none⟩ = some (.int .i64 (n8 : Int))) := Lib.hid ((E3.out.cell (p := ⟨g, 7, none⟩) HGL.out).trans X7.out)
      have Z3 := Lib.hid (HN.out.trans (E3.out.mono HN.out.size))
      have ZB : Hid (w.heap.size + 3 ≤ bx) := Lib.hid (by rw [hbx]; exact HS1.out)
      have ZG : Hid (g < bx) := Lib.hid (by rw [hbx]; exact HGL.out)
      have ZS : Hid (bx + 1 ≤ W3.heap.size) := Lib.hid (by rw [hW3, hbx]; show wr.heap.size + 1 ≤ (wr.alloc _).heap.size; simp)
      rw [← hbx] at Z4 ⊢
      clear hW3 hbx E3 Y2 X7 HN HS1 HGL HKP OV hgl
      obtain ⟨m, hm⟩ : ∃ m, m = min n8 5 := ⟨_, rfl⟩
      have hm5 : m ≤ 5 := by omega
      have hmn : m ≤ n8 := by omega
      have hmm : n8 ≤ m ∨ m = 5 := by omega
      rw [← hm] at HRR
      clear hm
      go_wp2
      obtain ⟨wo, rfl⟩ : ∃ wo : World, wo = wr := ⟨_, rfl⟩
      go_loopw [6, 11] (fun at_ i wr => ∃ (k at2 cp : Nat) (A : Option Addr) (os : List OD) (ivs : List Value), k ≤ m ∧ i = .int .i64 (k : Int) ∧ at_ = .int .i64 (at2 : Int) ∧ Hid (readN s k = some (os, at2)) ∧ Hid (at2 ≤ s.size) ∧ Hid (∀ o ∈ os, o.wf ∧ o.ids.length ≤ 8) ∧ Hid (ObO wr (bx + 1) (.slice A k cp) k os ivs) ∧ Hid (Apt (.slice A k cp) ivs) ∧ Hid (Blk wr w.heap.size 37 (vxC noX (.slice none 0 0))) ∧ Hid (Blk wr bx 37 (vxC X (.slice A k cp))) ∧ Hid (wr.cell? ⟨g, 7, none⟩ = some (.int .i64 (n8 : Int))) ∧ Hid (bx + 1 ≤ wr.heap.size) ∧ Hid (Below w.heap.size w wr)) (fun _ i _ => m - (intOf i).toNat)
      case atStart => exact ⟨0, 22, 0, none, [], [], Nat.zero_le _, rfl, rfl, Lib.hid rfl, H22, Lib.hid (fun o h => by cases h), Lib.hid (ObO.nil _ _), Lib.hid (List.pairwise_singleton _ _), Z2, Z4, Z7, ZS, Z3⟩
      case round =>
        clear Z2 Z4 Z7 ZS Z3 H22
        obtain ⟨k, at2, cp, A, os, ivs, hk, rfl, rfl, HRN, HAT, HOW, OB, AP, Y2, Y4, Y7, HS1, HN⟩ := hrel
        have x7n : wr.cell? ⟨g, 7, none⟩ = some (.int .i64 (n8 : Int)) := Y7.out
        have hat : at2 ≤ 1048576 := Nat.le_trans HAT.out hs
        have hzb := ZB.out
        have hzg := ZG.out
        by_cases hlt : k < m
        · have c1 : (k : Int) < (n8 : Int) := by omega
          have c2 : (k : Int) ≤ 4 := by omega
          go_wp2_with fail
          refine (readOpt_s s (at2 : Int) wr hs63 (i64R_nat (by omega))).mono ?_
          rintro e w2 hg
          cases hro : readO s (at2 : Int) with
          | none =>
            rw [hro] at hg
            obtain ⟨rfl, hb⟩ := hg
            have HNo : Hid (r = none) := Lib.hid (by
              rw [HRR.out, readN_none (readN_stop HRN.out hro) m hlt])
            have V2 := Lib.hid (Y2.out.below hb Y2.out.lt)
            have L2 := Lib.hid (HN.out.trans (hb.mono HN.out.size))
            clear hb hro x7n
            go_upto_region 17 with ((refine wpl_store_opt rfl (by rfl) (by rfl) (by rfl) ?_))
            obtain ⟨W3, hW3⟩ : ∃ W, W = w2.alloc (.cells (voC (OD.new 0 []) (.slice none 0 0)).toArray 27) := ⟨_, rfl⟩
            rw [← hW3]
            have U2 : Hid (Blk W3 w.heap.size 37 (vxC noX (.slice none 0 0))) := Lib.hid (by rw [hW3]; exact V2.out.alloc _)
            have UL : Hid (Below w.heap.size w W3) := Lib.hid (by rw [hW3]; exact L2.out.alloc L2.out.size _)
            clear hW3 V2 L2
            go_wp2_with (refine wpl_store_segM (q := noX) (A := none) (n := 0) (c := 0) rfl (by rfl) (by rfl) (by rfl) U2.out rfl ?_)
            refine bodyPost_ret (results_seg2 rfl (by rfl) (by rfl) (Bx.setCells (vs := vxC noX (.slice none 0 0)) U2.out rfl)) rfl ?_
            rw [HNo.out]
            exact seg_no UL.out
          | some o =>
            rw [hro] at hg
            obtain ⟨iv, rfl, hob, hwf, hb⟩ := hg
            obtain ⟨A2, c2', rfl⟩ := hob.shape
            obtain ⟨at0, eat, hok, _, hle, hlen⟩ := readP_some (p := fun n => n == 1) hro
            obtain rfl : at2 = at0 := by omega
            obtain ⟨at3, hat3⟩ : ∃ a, a = at2 + (optL o).length := ⟨_, rfl⟩
            have eat3 : (at2 : Int) + 2 + (numAtN s ((at2 : Int) + 1) 1 : Int) = (at3 : Int) := by rw [hat3]; omega
            have hat3s : at3 ≤ s.size := by rw [hat3]; omega
            have HRN2 : Hid (readN s (k + 1) = some (os ++ [o], at3)) := Lib.hid (by rw [readN_next HRN.out hro, hat3])
            have HOW2 : Hid (∀ q ∈ os ++ [o], q.wf ∧ q.ids.length ≤ 8) := Lib.hid (fun q hq => by
              rcases List.mem_append.1 hq with hq | hq
              · exact HOW.out q hq
              · obtain rfl := List.mem_singleton.1 hq
                exact ⟨hwf, ids_le hok⟩)
            rw [eat3]
            have hneg : ¬ ((at3 : Int) < 0) := Int.not_lt.2 (Int.natCast_nonneg _)
            have HA3 := Lib.hid hat3s
            have V2 := Lib.hid (Y2.out.below hb Y2.out.lt)
            have V4 := Lib.hid (Y4.out.below hb Y4.out.lt)
            have hgw : g < wr.heap.size := by have := HS1.out; omega
            have V7 : Hid (w2.cell? ⟨g, 7, none⟩ = some (.int .i64 (n8 : Int))) := Lib.hid ((hb.cell (p := ⟨g, 7, none⟩) hgw).trans Y7.out)
            have OB2 := Lib.hid (OB.out.below hb)
            have LV : Hid (∀ g, (Value.slice A k cp).ownBlock = some g → g < wr.heap.size) := Lib.hid (fun g hg => (OB.out.row.lt g hg).2)
            have LVS : Hid (∀ a ∈ ivs, ∀ g, a.ownBlock = some g → g < wr.heap.size) := Lib.hid OB.out.lts
            have LM : Hid (∀ g, (Value.slice A2 o.ids.length c2').ownBlock = some g → wr.heap.size ≤ g) := Lib.hid (fun g hg => (hob.lt g hg).1)
            have L2 := Lib.hid (HN.out.trans (hb.mono HN.out.size))
            have S2 : Hid (bx + 1 ≤ w2.heap.size) := Lib.hid (Nat.le_trans HS1.out hb.size)
            have OI : Hid (Obs w2 (bx + 1) 1 (.slice A2 o.ids.length c2') o.ids.length (o.ids.map vn)) := Lib.hid (hob.mono HS1.out)
            clear hob hb hro hok hle hlen hwf hat3 eat3 hat3s x7n Y2 Y4 Y7 HN HS1 OB HRN hgw
            go_upto_region 17 with ((refine wpl_store_opt rfl (by rfl) (by rfl) (by rfl) ?_))
            obtain ⟨W3, hW3⟩ : ∃ W, W = w2.alloc (.cells (voC o (.slice A2 o.ids.length c2')).toArray 27) := ⟨_, rfl⟩
            rw [← hW3]
            have BX := Lib.hid (Bx.new w2 (voC o (.slice A2 o.ids.length c2')).toArray 27)
            have E3 := Lib.hid ((Below.refl w2.heap.size w2).alloc (Nat.le_refl _) (.cells (voC o (.slice A2 o.ids.length c2')).toArray 27))
            rw [← hW3] at BX E3
            obtain ⟨b13, hb13⟩ : ∃ b, b = w2.heap.size := ⟨_, rfl⟩
            rw [← hb13] at BX ⊢
            have U2 := Lib.hid ((V2.out.below E3.out V2.out.lt).alloc (.cells (voC o (.slice A2 o.ids.length c2')).toArray 27))
            have U4' := Lib.hid (V4.out.below E3.out V4.out.lt)
            have U4 := Lib.hid (U4'.out.alloc (.cells (voC o (.slice A2 o.ids.length c2')).toArray 27))
            have E4 := Lib.hid ((Below.refl W3.heap.size W3).alloc (Nat.le_refl _) (.cells (voC o (.slice A2 o.ids.length c2')).toArray 27))
            have hgw : g < w2.heap.size := by have := S2.out; omega
            have hgw3 : g < W3.heap.size := Nat.lt_of_lt_of_le hgw E3.out.size
            have U7 : Hid ((W3.alloc (.cells (voC o (.slice A2 o.ids.length c2')).toArray 27)).cell? ⟨g, 7, none⟩ = some (.int .i64 (n8 : Int))) := Lib.hid ((E4.out.cell (p := ⟨g, 7, none⟩) hgw3).trans ((E3.out.cell (p := ⟨g, 7, none⟩) hgw).trans V7.out))
            have OB3 := Lib.hid ((OB2.out.below E3.out).below E4.out)
            have OI3 := Lib.hid ((OI.out.below E3.out).below E4.out)
            have BN := Lib.hid (Bx.new W3 (voC o (.slice A2 o.ids.length c2')).toArray 27)
            have L3 := Lib.hid ((L2.out.trans (E3.out.mono L2.out.size)).alloc (Nat.le_trans L2.out.size E3.out.size) (.cells (voC o (.slice A2 o.ids.length c2')).toArray 27))
            have S3 : Hid (bx + 1 ≤ (W3.alloc (.cells (voC o (.slice A2 o.ids.length c2')).toArray 27)).heap.size) := Lib.hid (Nat.le_trans (Nat.le_trans S2.out E3.out.size) E4.out.size)
            have x7 : W3.cell? ⟨bx, 7, none⟩ = some (.slice A k cp) := U4'.out.cell 7
            clear hW3 hb13 E3 V2 V4 V7 OB2 OI L2 S2 hgw hgw3 c1 c2
            have hk1 : k ≤ 1048576 := by omega
            go_upto_region 20 with (first | (refine wpl_opt rfl (by rfl) (by rfl) BX.out ?_) | (refine wpl_build1 rfl (by rfl) (by rfl) ?_) | (at_builtin; refine wpl_append_opt _ rfl _ _ rfl (bx + 1) _ k os ivs rfl OB3.out AP.out o A2 _ c2' _ rfl BN.out OI3.out wr.heap.size LM.out LV.out LVS.out hk1 S3.out ?_; intro v4 w4 ho4 ha4 hb4; obtain ⟨A4, c4, rfl, _⟩ := ho4.rd.shape; have OB4 := Lib.hid ho4; have AP4 := Lib.hid ha4; have HB4 := Lib.hid hb4; have y7 : w4.cell? ⟨bx, 7, none⟩ = some (.slice A k cp) := (U4.out.below hb4 (by omega)).cell 7; have f7 := (U4.out.below hb4 (by omega)).frozen 7; clear ho4 ha4 hb4))
            have T2 := Lib.hid (U2.out.below HB4.out (by omega))
            have T4 := Lib.hid (U4.out.below HB4.out (by omega))
            have T7 : Hid (w4.cell? ⟨g, 7, none⟩ = some (.int .i64 (n8 : Int))) := Lib.hid ((HB4.out.cell (p := ⟨g, 7, none⟩) (by dsimp only; omega)).trans U7.out)
            have L4 := Lib.hid (L3.out.trans (HB4.out.mono (by omega)))
            have S4 : Hid (bx + 1 ≤ w4.heap.size) := Lib.hid (Nat.le_trans S3.out HB4.out.size)
            clear x7 U2 U4 U4' U7 L3 S3 OB3 OI3 BN BX E4
            obtain ⟨W5, hW5⟩ : ∃ W, W = w4.setCell ⟨bx, 7, none⟩ (.slice A4 (k + 1) c4) := ⟨_, rfl⟩
            rw [← hW5]
            have R4 : Hid (Blk W5 bx 37 (vxC X (.slice A4 (k + 1) c4))) := Lib.hid (by rw [hW5]; exact T4.out.set_ 7 _)
            have R2 : Hid (Blk W5 w.heap.size 37 (vxC noX (.slice none 0 0))) := Lib.hid (by rw [hW5]; exact T2.out.far (by dsimp only; omega) _)
            have R7 : Hid (W5.cell? ⟨g, 7, none⟩ = some (.int .i64 (n8 : Int))) := Lib.hid (by rw [hW5]; exact (World.cell?_setCell_far _ _ _ _ (by dsimp only; omega)).trans T7.out)
            have OB5 : Hid (ObO W5 (bx + 1) (.slice A4 (k + 1) c4) (k + 1) (os ++ [o]) (ivs ++ [.slice A2 o.ids.length c2'])) := Lib.hid (by rw [hW5]; exact OB4.out.far (by dsimp only; omega) _)
            have L5 : Hid (Below w.heap.size w W5) := Lib.hid (by rw [hW5]; exact L4.out.setCell (by dsimp only; omega) _)
            have S5 : Hid (bx + 1 ≤ W5.heap.size) := Lib.hid (by rw [hW5]; simp [World.setCell]; exact S4.out)
            clear hW5 y7 f7 T2 T4 T7 OB4 L4 S4
            go_wp2
            go_roundw
            case rel => exact ⟨k + 1, at3, c4, A4, _, _, by omega, by go_num, rfl, HRN2, HA3, HOW2, OB5, AP4, R2, R4, R7, S5, L5⟩
            case measure => (simp [intOf]; try omega)
        · have hkm : k = m := by omega
          have HLO : Hid (os.length = k) := Lib.hid OB.out.lo
          obtain ⟨nn, hnn⟩ : ∃ n, n = numAtN s (at2 : Int) 2 := ⟨_, rfl⟩
          obtain ⟨nb, hnb⟩ : ∃ b, b = numAtB s (at2 : Int) 2 := ⟨_, rfl⟩
          have hnnl : nn < 281474976710656 := by rw [hnn]; exact numAtN_lt s _ _
          have HNN := Lib.hid hnn
          have HNB := Lib.hid hnb
          have HRX : Hid (r = if tailB s at2 = true ∧ at2 + 2 + nn = s.size ∧ segOk (segOf s os (textAtS s (at2 + 2 : Nat) nn)) = true ∧ os.length = n8 then some (segOf s os (textAtS s (at2 + 2 : Nat) nn)) else none) := Lib.hid (by rw [HRR.out, ← hkm, HRN.out, hnn])
          have c0 : (¬ (k : Int) < (n8 : Int)) ∨ ((k : Int) < (n8 : Int) ∧ ¬ (k : Int) ≤ 4) := by
            rcases hmm with h | h
            · left; omega
            · by_cases h2 : k < n8
              · right; omega
              · left; omega
          clear hnn hnb hkm hk hlt hmm hm5 hmn
          rcases c0 with c0 | ⟨c1, c2⟩
          · skip
            go_wp2_with fail
            refine (numAt_s s (at2 : Int) 2 _ hs63).mono ?_
            rw [← HNN.out, ← HNB.out]
            rintro e w2 ⟨rfl, hb⟩
            have U2 := Lib.hid (Y2.out.below hb Y2.out.lt)
            have V4 := Lib.hid (Y4.out.below hb Y4.out.lt)
            have hgw : g < wr.heap.size := by have := HS1.out; omega
            have V7 : Hid (w2.cell? ⟨g, 7, none⟩ = some (.int .i64 (n8 : Int))) := Lib.hid ((hb.cell (p := ⟨g, 7, none⟩) hgw).trans Y7.out)
            have OB2 := Lib.hid (OB.out.below hb)
            have UL := Lib.hid (HN.out.trans (hb.mono HN.out.size))
            have S2 : Hid (bx + 1 ≤ w2.heap.size) := Lib.hid (Nat.le_trans HS1.out hb.size)
            clear hb Y2 Y4 Y7 OB HN HS1 x7n hgw
            obtain ⟨d, hd⟩ : ∃ d, d = textAtS s ((at2 : Int) + 2) (nn : Int) := ⟨_, rfl⟩
            obtain ⟨tb, htb⟩ : ∃ b, b = textAtB s ((at2 : Int) + 2) (nn : Int) := ⟨_, rfl⟩
            have hds : d.size ≤ 9223372036854775807 := by rw [hd]; have := textAtS_size s ((at2 : Int) + 2) (nn : Int) nn rfl; omega
            have HTAIL : Hid (tailB s at2 = (nb && tb)) := Lib.hid (by
              unfold tailB
              rw [HNB.out, htb, ← HNN.out, show ((at2 + 2 : Nat) : Int) = (at2 : Int) + 2 by omega])
            have HRY : Hid (r = if tailB s at2 = true ∧ at2 + 2 + nn = s.size ∧ segOk (segOf s os d) = true ∧ os.length = n8 then some (segOf s os d) else none) := Lib.hid (by
              rw [HRX.out, hd, show ((at2 + 2 : Nat) : Int) = (at2 : Int) + 2 by omega])
            have hsum : IntKind.i64.wrap ((at2 : Int) + 2 + (nn : Int)) = (at2 : Int) + 2 + (nn : Int) := IntWalk.i64_in _ (by omega)
            go_wp2_with fail
            refine (textAt_s s ((at2 : Int) + 2) (nn : Int) _ hs63).mono ?_
            rw [← hd, ← htb]
            rintro e w3 ⟨rfl, rfl⟩
            clear hd htb
            cases nb
            case false =>
              have HNo : Hid (r = none) := Lib.hid (by rw [HRY.out, if_neg]; rw [HTAIL.out]; simp)
              go_wp2_with (refine wpl_store_segM (q := noX) (A := none) (n := 0) (c := 0) rfl (by rfl) (by rfl) (by rfl) U2.out rfl ?_)
              refine bodyPost_ret (results_seg2 rfl (by rfl) (by rfl) (Bx.setCells (vs := vxC noX (.slice none 0 0)) U2.out rfl)) rfl ?_
              rw [HNo.out]
              exact seg_no UL.out
            cases tb
            case false =>
              have HNo : Hid (r = none) := Lib.hid (by rw [HRY.out, if_neg]; rw [HTAIL.out]; simp)
              go_wp2_with (refine wpl_store_segM (q := noX) (A := none) (n := 0) (c := 0) rfl (by rfl) (by rfl) (by rfl) U2.out rfl ?_)
              refine bodyPost_ret (results_seg2 rfl (by rfl) (by rfl) (Bx.setCells (vs := vxC noX (.slice none 0 0)) U2.out rfl)) rfl ?_
              rw [HNo.out]
              exact seg_no UL.out
            by_cases hq : at2 + 2 + nn = s.size
            case neg =>
              have q1 : ((at2 : Int) + 2 + (nn : Int) == (s.size : Int)) = false := by simp; omega
              have q2 : ((at2 : Int) + 2 + (nn : Int) != (s.size : Int)) = true := by simp; omega
              have HNo : Hid (r = none) := Lib.hid (by rw [HRY.out, if_neg]; intro h; exact hq h.2.1)
              go_wp2_with (refine wpl_store_segM (q := noX) (A := none) (n := 0) (c := 0) rfl (by rfl) (by rfl) (by rfl) U2.out rfl ?_)
              refine bodyPost_ret (results_seg2 rfl (by rfl) (by rfl) (Bx.setCells (vs := vxC noX (.slice none 0 0)) U2.out rfl)) rfl ?_
              rw [HNo.out]
              exact seg_no UL.out
            have q1 : ((at2 : Int) + 2 + (nn : Int) == (s.size : Int)) = true := by simp; omega
            have q2 : ((at2 : Int) + 2 + (nn : Int) != (s.size : Int)) = false := by simp; omega
            have HQ := Lib.hid hq
            clear hq
            have y8 : w2.cell? ⟨bx, 8, none⟩ = some (.string X.da) := V4.out.cell 8
            have f8 := V4.out.frozen 8
            go_upto_region 26 with (fail)
            obtain ⟨W3, hW3⟩ : ∃ W, W = w2.setCell ⟨bx, 8, none⟩ (.string d) := ⟨_, rfl⟩
            rw [← hW3]
            obtain ⟨Z, hZ⟩ : ∃ Z, Z = segOf s os d := ⟨_, rfl⟩
            have U4 : Hid (Blk W3 bx 37 (vxC Z (.slice A k cp))) := Lib.hid (by
              have h1 := V4.out.set_ 8 (.string d)
              rw [HX.out] at h1
              rw [hW3, hZ]
              exact h1)
            have R2 : Hid (Blk W3 w.heap.size 37 (vxC noX (.slice none 0 0))) := Lib.hid (by rw [hW3]; exact U2.out.far (by dsimp only; omega) _)
            have U7 : Hid (W3.cell? ⟨g, 7, none⟩ = some (.int .i64 (n8 : Int))) := Lib.hid (by rw [hW3]; exact (World.cell?_setCell_far _ _ _ _ (by dsimp only; omega)).trans V7.out)
            have OB3 : Hid (ObO W3 (bx + 1) (.slice A k cp) k Z.ops ivs) := Lib.hid (by rw [hW3, hZ]; exact OB2.out.far (by dsimp only; omega) _)
            have RL : Hid (Below w.heap.size w W3) := Lib.hid (by rw [hW3]; exact UL.out.setCell (by dsimp only; omega) _)
            have S3 : Hid (bx + 1 ≤ W3.heap.size) := Lib.hid (by rw [hW3]; simp [World.setCell]; exact S2.out)
            have HXO : Hid (Z.ops = os) := Lib.hid (by rw [hZ]; rfl)
            have XWF : Hid Z.wf := Lib.hid (by
              rw [hZ]
              refine ⟨⟨?_, ?_, ?_, ?_, ?_, ?_, ?_⟩, by show d.size ≤ maxLen; unfold maxLen; omega, fun o ho => (HOW.out o ho).1⟩ <;> exact i64R_nat (Nat.le_trans (Nat.le_of_lt (numAtN_lt s _ _)) (by decide)))
            have XID : Hid (∀ o ∈ Z.ops, o.ids.length ≤ 8) := Lib.hid (fun o ho => (HOW.out o (by rw [← HXO.out]; exact ho)).2)
            rw [← hZ] at HRY
            clear hW3 hZ U2 V4 V7 OB2 UL S2 y8 f8
            obtain ⟨b, hb⟩ : ∃ b, b = segOk Z := ⟨_, rfl⟩
            have HB := Lib.hid hb
            clear hb
            have hgw : g < W3.heap.size := by have := S3.out; omega
            have keep : ∀ w', Below W3.heap.size W3 w' → Bx w' bx (vxC Z (.slice A k cp)) ∧ w'.cell? ⟨bx, 7, none⟩ = some (.slice A k cp) ∧ w'.cell? ⟨g, 7, none⟩ = some (.int .i64 (n8 : Int)) := fun w' hb =>
              have h1 := (Bx.of_blk U4.out).below hb
              ⟨h1, h1.2 7 _ rfl, (hb.cell (p := ⟨g, 7, none⟩) hgw).trans U7.out⟩
            have HKP := Lib.hid keep
            clear keep
            refine wp_region_held_drew (S := fun w' => Bx w' bx (vxC Z (.slice A k cp)) ∧ w'.cell? ⟨bx, 7, none⟩ = some (.slice A k cp) ∧ w'.cell? ⟨g, 7, none⟩ = some (.int .i64 (n8 : Int))) (by kernel_rfl) (HKP.out _ (Below.refl W3.heap.size W3).drew) (fun hHeld => ?_)
            refine wpAnyH_take (i := 0) (oi := ⟨some 130, _, _, _, _, _⟩) rfl (by kernel_rfl) (by kernel_rfl) (by kernel_rfl) (fun _ _ _ h => h) (yields_seg (by kernel_rfl) rfl (by rfl) (fun w h => h.1)) (by assumption) ?_
            try simp only [Act.put, List.setIfInBounds_toArray, List.set_cons_zero, List.set_cons_succ]
            refine wpAnyH_ready (rs := [1]) (by kernel_rfl) (by simp) ?_
            refine AllReadyH.cons (o := ⟨some 131, _, _, _, _, _⟩) rfl (fun K hK => ?_) AllReadyH.nil
            go_simp
            (go_at_call 41; refine (segOk_s Z A k cp ivs _ (OB3.out.rd.below (Below.refl W3.heap.size W3).drew) XWF.out).mono ?_; rw [← HB.out]; rintro e W4 ⟨rfl, hb⟩)
            try go_wp2_with fail
            refine hK.out _ _ ?_ (fun hHeld => ?_)
            · exact HKP.out _ ((Below.refl W3.heap.size W3).drew.trans hb)
            clear hK K
            try simp only [Act.put, List.setIfInBounds_toArray, List.set_cons_zero, List.set_cons_succ]
            have B4 := Lib.hid ((Below.refl W3.heap.size W3).drew.trans hb)
            clear hb
            have OB4 := Lib.hid (OB3.out.below B4.out)
            have T4 := Lib.hid (U4.out.below B4.out U4.out.lt)
            have U2 := Lib.hid (R2.out.below B4.out R2.out.lt)
            have UL := Lib.hid (RL.out.trans (B4.out.mono RL.out.size))
            cases b
            case false =>
              refine wpAnyH_take (i := 2) (oi := ⟨some 132, _, _, _, _, _⟩) (v := ?_) rfl (by kernel_rfl) (by kernel_rfl) (by kernel_rfl) (fun _ _ _ h => h) (Or.inl ⟨by kernel_rfl, ?_⟩) (by assumption) ?_
              rotate_left
              · (intro w hSw; (try dsimp only at hSw); go_simp; try (with_reducible rfl))
              try simp only [Act.put, List.setIfInBounds_toArray, List.set_cons_zero, List.set_cons_succ]
              refine wpAnyH_take (i := 3) (oi := ⟨some 133, _, _, _, _, _⟩) (v := ?_) rfl (by kernel_rfl) (by kernel_rfl) (by kernel_rfl) (fun _ _ _ h => h) (Or.inl ⟨by kernel_rfl, ?_⟩) (by assumption) ?_
              rotate_left
              · (intro w hSw; (try dsimp only at hSw); go_simp; try (with_reducible rfl))
              try simp only [Act.put, List.setIfInBounds_toArray, List.set_cons_zero, List.set_cons_succ]
              refine wpAnyH_take (i := 4) (oi := ⟨some 134, _, _, _, _, _⟩) (v := undef) rfl (by kernel_rfl) (by kernel_rfl) (by kernel_rfl) (fun _ _ _ h => h) (Or.inr ⟨by kernel_rfl, rfl⟩) (by assumption) ?_
              try simp only [Act.put, List.setIfInBounds_toArray, List.set_cons_zero, List.set_cons_succ]
              refine wpAnyH_take (i := 5) (oi := ⟨some 135, _, _, _, _, _⟩) (v := undef) rfl (by kernel_rfl) (by kernel_rfl) (by kernel_rfl) (fun _ _ _ h => h) (Or.inr ⟨by kernel_rfl, rfl⟩) (by assumption) ?_
              try simp only [Act.put, List.setIfInBounds_toArray, List.set_cons_zero, List.set_cons_succ]
              refine wpAnyH_take (i := 6) (oi := ⟨some 136, _, _, _, _, _⟩) (v := undef) rfl (by kernel_rfl) (by kernel_rfl) (by kernel_rfl) (fun _ _ _ h => h) (Or.inr ⟨by kernel_rfl, rfl⟩) (by assumption) ?_
              try simp only [Act.put, List.setIfInBounds_toArray, List.set_cons_zero, List.set_cons_succ]
              refine wpAnyH_take (i := 7) (oi := ⟨some 137, _, _, _, _, _⟩) (v := undef) rfl (by kernel_rfl) (by kernel_rfl) (by kernel_rfl) (fun _ _ _ h => h) (Or.inr ⟨by kernel_rfl, rfl⟩) (by assumption) ?_
              try simp only [Act.put, List.setIfInBounds_toArray, List.set_cons_zero, List.set_cons_succ]
              refine wpAnyH_take (i := 8) (oi := ⟨some 138, _, _, _, _, _⟩) (v := undef) rfl (by kernel_rfl) (by kernel_rfl) (by kernel_rfl) (fun _ _ _ h => h) (Or.inr ⟨by kernel_rfl, rfl⟩) (by assumption) ?_
              try simp only [Act.put, List.setIfInBounds_toArray, List.set_cons_zero, List.set_cons_succ]
              refine wpAnyH_take (i := 9) (oi := ⟨some 139, _, _, _, _, _⟩) (v := undef) rfl (by kernel_rfl) (by kernel_rfl) (by kernel_rfl) (fun _ _ _ h => h) (Or.inr ⟨by kernel_rfl, rfl⟩) (by assumption) ?_
              try simp only [Act.put, List.setIfInBounds_toArray, List.set_cons_zero, List.set_cons_succ]
              refine wpAnyH_take (i := 10) (oi := ⟨some 140, _, _, _, _, _⟩) (v := undef) rfl (by kernel_rfl) (by kernel_rfl) (by kernel_rfl) (fun _ _ _ h => h) (Or.inr ⟨by kernel_rfl, rfl⟩) (by assumption) ?_
              try simp only [Act.put, List.setIfInBounds_toArray, List.set_cons_zero, List.set_cons_succ]
              refine wpAnyH_take (i := 11) (oi := ⟨some 141, _, _, _, _, _⟩) (v := ?_) rfl (by kernel_rfl) (by kernel_rfl) (by kernel_rfl) (fun _ _ _ h => h) (Or.inl ⟨by kernel_rfl, ?_⟩) (by assumption) ?_
              rotate_left
              · (intro w hSw; (try dsimp only at hSw); go_simp; try (with_reducible rfl))
              try simp only [Act.put, List.setIfInBounds_toArray, List.set_cons_zero, List.set_cons_succ]
              refine wpAnyH_done (by kernel_rfl) ?_ _
              repeat clear hHeld
              have HNo : Hid (r = none) := Lib.hid (by rw [HRY.out, if_neg]; intro h; rw [← HB.out] at h; cases h.2.2.1)
              go_wp2_with (refine wpl_store_segM (q := noX) (A := none) (n := 0) (c := 0) rfl (by rfl) (by rfl) (by rfl) U2.out rfl ?_)
              refine bodyPost_ret (results_seg2 rfl (by rfl) (by rfl) (Bx.setCells (vs := vxC noX (.slice none 0 0)) U2.out rfl)) rfl ?_
              rw [HNo.out]
              exact seg_no UL.out
            by_cases hkn : k = n8
            · have q3 : ((k : Int) == (n8 : Int)) = true := by simp; omega
              have q4 : ((k : Int) != (n8 : Int)) = false := by simp; omega
              have HY : Hid (r = some Z) := Lib.hid (by rw [HRY.out, if_pos]; exact ⟨by rw [HTAIL.out]; rfl, HQ.out, HB.out.symm, by rw [HLO.out]; exact hkn⟩)
              clear hkn
              refine wpAnyH_take (i := 2) (oi := ⟨some 132, _, _, _, _, _⟩) (v := ?_) rfl (by kernel_rfl) (by kernel_rfl) (by kernel_rfl) (fun _ _ _ h => h) (Or.inl ⟨by kernel_rfl, ?_⟩) (by assumption) ?_
              rotate_left
              · (intro w hSw; (try dsimp only at hSw); go_simp; try (with_reducible rfl))
              try simp only [Act.put, List.setIfInBounds_toArray, List.set_cons_zero, List.set_cons_succ]
              refine wpAnyH_take (i := 3) (oi := ⟨some 133, _, _, _, _, _⟩) (v := ?_) rfl (by kernel_rfl) (by kernel_rfl) (by kernel_rfl) (fun _ _ _ h => h) (Or.inl ⟨by kernel_rfl, ?_⟩) (by assumption) ?_
              rotate_left
              · (intro w hSw; (try dsimp only at hSw); go_simp; try (with_reducible rfl))
              try simp only [Act.put, List.setIfInBounds_toArray, List.set_cons_zero, List.set_cons_succ]
              refine wpAnyH_take (i := 4) (oi := ⟨some 134, _, _, _, _, _⟩) (v := ?_) rfl (by kernel_rfl) (by kernel_rfl) (by kernel_rfl) (fun _ _ _ h => h) (Or.inl ⟨by kernel_rfl, ?_⟩) (by assumption) ?_
              rotate_left
              · (intro w hSw; (try dsimp only at hSw); go_simp; try (with_reducible rfl))
              try simp only [Act.put, List.setIfInBounds_toArray, List.set_cons_zero, List.set_cons_succ]
              refine wpAnyH_take (i := 5) (oi := ⟨some 135, _, _, _, _, _⟩) (v := ?_) rfl (by kernel_rfl) (by kernel_rfl) (by kernel_rfl) (fun _ _ _ h => h) (Or.inl ⟨by kernel_rfl, ?_⟩) (by assumption) ?_
              rotate_left
              · (intro w hSw; (try dsimp only at hSw); go_simp; try (with_reducible rfl))
              try simp only [Act.put, List.setIfInBounds_toArray, List.set_cons_zero, List.set_cons_succ]
              refine wpAnyH_take (i := 6) (oi := ⟨some 136, _, _, _, _, _⟩) (v := ?_) rfl (by kernel_rfl) (by kernel_rfl) (by kernel_rfl) (fun _ _ _ h => h) (Or.inl ⟨by kernel_rfl, ?_⟩) (by assumption) ?_
              rotate_left
              · (intro w hSw; (try dsimp only at hSw); go_simp; try (with_reducible rfl))
              try simp only [Act.put, List.setIfInBounds_toArray, List.set_cons_zero, List.set_cons_succ]
              refine wpAnyH_take (i := 7) (oi := ⟨some 137, _, _, _, _, _⟩) (v := ?_) rfl (by kernel_rfl) (by kernel_rfl) (by kernel_rfl) (fun _ _ _ h => h) (Or.inl ⟨by kernel_rfl, ?_⟩) (by assumption) ?_
              rotate_left
              · (intro w hSw; (try dsimp only at hSw); go_simp; try (with_reducible rfl))
              try simp only [Act.put, List.setIfInBounds_toArray, List.set_cons_zero, List.set_cons_succ]
              refine wpAnyH_take (i := 8) (oi := ⟨some 138, _, _, _, _, _⟩) (v := ?_) rfl (by kernel_rfl) (by kernel_rfl) (by kernel_rfl) (fun _ _ _ h => h) (Or.inl ⟨by kernel_rfl, ?_⟩) (by assumption) ?_
              rotate_left
              · (intro w hSw; (try dsimp only at hSw); go_simp; try (with_reducible rfl))
              try simp only [Act.put, List.setIfInBounds_toArray, List.set_cons_zero, List.set_cons_succ]
              refine wpAnyH_take (i := 9) (oi := ⟨some 139, _, _, _, _, _⟩) (v := ?_) rfl (by kernel_rfl) (by kernel_rfl) (by kernel_rfl) (fun _ _ _ h => h) (Or.inl ⟨by kernel_rfl, ?_⟩) (by assumption) ?_
              rotate_left
              · (intro w hSw; (try dsimp only at hSw); go_simp; try (with_reducible rfl))
              try simp only [Act.put, List.setIfInBounds_toArray, List.set_cons_zero, List.set_cons_succ]
              refine wpAnyH_take (i := 10) (oi := ⟨some 140, _, _, _, _, _⟩) (v := ?_) rfl (by kernel_rfl) (by kernel_rfl) (by kernel_rfl) (fun _ _ _ h => h) (Or.inl ⟨by kernel_rfl, ?_⟩) (by assumption) ?_
              rotate_left
              · (intro w hSw; (try dsimp only at hSw); go_simp; try (with_reducible rfl))
              try simp only [Act.put, List.setIfInBounds_toArray, List.set_cons_zero, List.set_cons_succ]
              refine wpAnyH_take (i := 11) (oi := ⟨some 141, _, _, _, _, _⟩) (v := ?_) rfl (by kernel_rfl) (by kernel_rfl) (by kernel_rfl) (fun _ _ _ h => h) (Or.inl ⟨by kernel_rfl, ?_⟩) (by assumption) ?_
              rotate_left
              · (intro w hSw; (try dsimp only at hSw); go_simp; try (with_reducible rfl))
              try simp only [Act.put, List.setIfInBounds_toArray, List.set_cons_zero, List.set_cons_succ]
              refine wpAnyH_done (by kernel_rfl) ?_ _
              repeat clear hHeld
              go_wp2_with (first | (refine wpl_segI rfl (by rfl) (by rfl) (Bx.of_blk T4.out) ?_) | (refine wpl_store_segM (q := Z) rfl (by rfl) (by rfl) (by rfl) U2.out rfl ?_))
              refine bodyPost_ret (results_seg2 rfl (by rfl) (by rfl) (Bx.setCells (vs := vxC Z (.slice A k cp)) U2.out rfl)) rfl ?_
              rw [HY.out]
              refine ⟨.slice A k cp, ivs, rfl, ?_, AP.out, XWF.out, XID.out, Below.setCells' UL.out (Nat.le_refl _) _ _⟩
              have h1 := OB4.out
              have h2 : Z.ops.length = k := by rw [HXO.out]; exact HLO.out
              rw [h2]
              exact ⟨h1.lo, h1.li, (h1.row.farS (by omega) _ _).mono (by omega), fun i p c hp hc => ((h1.ids i p c hp hc).farS (by omega) _ _).mono (by omega)⟩
            · have q3 : ((k : Int) == (n8 : Int)) = false := by simp; omega
              have q4 : ((k : Int) != (n8 : Int)) = true := by simp; omega
              have HNo : Hid (r = none) := Lib.hid (by rw [HRY.out, if_neg]; intro h; exact hkn (by rw [← HLO.out]; exact h.2.2.2))
              clear hkn
              refine wpAnyH_take (i := 2) (oi := ⟨some 132, _, _, _, _, _⟩) (v := ?_) rfl (by kernel_rfl) (by kernel_rfl) (by kernel_rfl) (fun _ _ _ h => h) (Or.inl ⟨by kernel_rfl, ?_⟩) (by assumption) ?_
              rotate_left
              · (intro w hSw; (try dsimp only at hSw); go_simp; try (with_reducible rfl))
              try simp only [Act.put, List.setIfInBounds_toArray, List.set_cons_zero, List.set_cons_succ]
              refine wpAnyH_take (i := 3) (oi := ⟨some 133, _, _, _, _, _⟩) (v := ?_) rfl (by kernel_rfl) (by kernel_rfl) (by kernel_rfl) (fun _ _ _ h => h) (Or.inl ⟨by kernel_rfl, ?_⟩) (by assumption) ?_
              rotate_left
              · (intro w hSw; (try dsimp only at hSw); go_simp; try (with_reducible rfl))
              try simp only [Act.put, List.setIfInBounds_toArray, List.set_cons_zero, List.set_cons_succ]
              refine wpAnyH_take (i := 4) (oi := ⟨some 134, _, _, _, _, _⟩) (v := ?_) rfl (by kernel_rfl) (by kernel_rfl) (by kernel_rfl) (fun _ _ _ h => h) (Or.inl ⟨by kernel_rfl, ?_⟩) (by assumption) ?_
              rotate_left
              · (intro w hSw; (try dsimp only at hSw); go_simp; try (with_reducible rfl))
              try simp only [Act.put, List.setIfInBounds_toArray, List.set_cons_zero, List.set_cons_succ]
              refine wpAnyH_take (i := 5) (oi := ⟨some 135, _, _, _, _, _⟩) (v := ?_) rfl (by kernel_rfl) (by kernel_rfl) (by kernel_rfl) (fun _ _ _ h => h) (Or.inl ⟨by kernel_rfl, ?_⟩) (by assumption) ?_
              rotate_left
              · (intro w hSw; (try dsimp only at hSw); go_simp; try (with_reducible rfl))
              try simp only [Act.put, List.setIfInBounds_toArray, List.set_cons_zero, List.set_cons_succ]
              refine wpAnyH_take (i := 6) (oi := ⟨some 136, _, _, _, _, _⟩) (v := ?_) rfl (by kernel_rfl) (by kernel_rfl) (by kernel_rfl) (fun _ _ _ h => h) (Or.inl ⟨by kernel_rfl, ?_⟩) (by assumption) ?_
              rotate_left
              · (intro w hSw; (try dsimp only at hSw); go_simp; try (with_reducible rfl))
              try simp only [Act.put, List.setIfInBounds_toArray, List.set_cons_zero, List.set_cons_succ]
              refine wpAnyH_take (i := 7) (oi := ⟨some 137, _, _, _, _, _⟩) (v := ?_) rfl (by kernel_rfl) (by kernel_rfl) (by kernel_rfl) (fun _ _ _ h => h) (Or.inl ⟨by kernel_rfl, ?_⟩) (by assumption) ?_
              rotate_left
              · (intro w hSw; (try dsimp only at hSw); go_simp; try (with_reducible rfl))
              try simp only [Act.put, List.setIfInBounds_toArray, List.set_cons_zero, List.set_cons_succ]
              refine wpAnyH_take (i := 8) (oi := ⟨some 138, _, _, _, _, _⟩) (v := ?_) rfl (by kernel_rfl) (by kernel_rfl) (by kernel_rfl) (fun _ _ _ h => h) (Or.inl ⟨by kernel_rfl, ?_⟩) (by assumption) ?_
              rotate_left
              · (intro w hSw; (try dsimp only at hSw); go_simp; try (with_reducible rfl))
              try simp only [Act.put, List.setIfInBounds_toArray, List.set_cons_zero, List.set_cons_succ]
              refine wpAnyH_take (i := 9) (oi := ⟨some 139, _, _, _, _, _⟩) (v := ?_) rfl (by kernel_rfl) (by kernel_rfl) (by kernel_rfl) (fun _ _ _ h => h) (Or.inl ⟨by kernel_rfl, ?_⟩) (by assumption) ?_
              rotate_left
              · (intro w hSw; (try dsimp only at hSw); go_simp; try (with_reducible rfl))
              try simp only [Act.put, List.setIfInBounds_toArray, List.set_cons_zero, List.set_cons_succ]
              refine wpAnyH_take (i := 10) (oi := ⟨some 140, _, _, _, _, _⟩) (v := ?_) rfl (by kernel_rfl) (by kernel_rfl) (by kernel_rfl) (fun _ _ _ h => h) (Or.inl ⟨by kernel_rfl, ?_⟩) (by assumption) ?_
              rotate_left
              · (intro w hSw; (try dsimp only at hSw); go_simp; try (with_reducible rfl))
              try simp only [Act.put, List.setIfInBounds_toArray, List.set_cons_zero, List.set_cons_succ]
              refine wpAnyH_take (i := 11) (oi := ⟨some 141, _, _, _, _, _⟩) (v := ?_) rfl (by kernel_rfl) (by kernel_rfl) (by kernel_rfl) (fun _ _ _ h => h) (Or.inl ⟨by kernel_rfl, ?_⟩) (by assumption) ?_
              rotate_left
              · (intro w hSw; (try dsimp only at hSw); go_simp; try (with_reducible rfl))
              try simp only [Act.put, List.setIfInBounds_toArray, List.set_cons_zero, List.set_cons_succ]
              refine wpAnyH_done (by kernel_rfl) ?_ _
              repeat clear hHeld
              go_wp2_with (refine wpl_store_segM (q := noX) (A := none) (n := 0) (c := 0) rfl (by rfl) (by rfl) (by rfl) U2.out rfl ?_)
              refine bodyPost_ret (results_seg2 rfl (by rfl) (by rfl) (Bx.setCells (vs := vxC noX (.slice none 0 0)) U2.out rfl)) rfl ?_
              rw [HNo.out]
              exact seg_no UL.out
          · skip
            go_wp2_with fail
            refine (numAt_s s (at2 : Int) 2 _ hs63).mono ?_
            rw [← HNN.out, ← HNB.out]
            rintro e w2 ⟨rfl, hb⟩
            have U2 := Lib.hid (Y2.out.below hb Y2.out.lt)
            have V4 := Lib.hid (Y4.out.below hb Y4.out.lt)
            have hgw : g < wr.heap.size := by have := HS1.out; omega
            have V7 : Hid (w2.cell? ⟨g, 7, none⟩ = some (.int .i64 (n8 : Int))) := Lib.hid ((hb.cell (p := ⟨g, 7, none⟩) hgw).trans Y7.out)
            have OB2 := Lib.hid (OB.out.below hb)
            have UL := Lib.hid (HN.out.trans (hb.mono HN.out.size))
            have S2 : Hid (bx + 1 ≤ w2.heap.size) := Lib.hid (Nat.le_trans HS1.out hb.size)
            clear hb Y2 Y4 Y7 OB HN HS1 x7n hgw
            obtain ⟨d, hd⟩ : ∃ d, d = textAtS s ((at2 : Int) + 2) (nn : Int) := ⟨_, rfl⟩
            obtain ⟨tb, htb⟩ : ∃ b, b = textAtB s ((at2 : Int) + 2) (nn : Int) := ⟨_, rfl⟩
            have hds : d.size ≤ 9223372036854775807 := by rw [hd]; have := textAtS_size s ((at2 : Int) + 2) (nn : Int) nn rfl; omega
            have HTAIL : Hid (tailB s at2 = (nb && tb)) := Lib.hid (by
              unfold tailB
              rw [HNB.out, htb, ← HNN.out, show ((at2 + 2 : Nat) : Int) = (at2 : Int) + 2 by omega])
            have HRY : Hid (r = if tailB s at2 = true ∧ at2 + 2 + nn = s.size ∧ segOk (segOf s os d) = true ∧ os.length = n8 then some (segOf s os d) else none) := Lib.hid (by
              rw [HRX.out, hd, show ((at2 + 2 : Nat) : Int) = (at2 : Int) + 2 by omega])
            have hsum : IntKind.i64.wrap ((at2 : Int) + 2 + (nn : Int)) = (at2 : Int) + 2 + (nn : Int) := IntWalk.i64_in _ (by omega)
            go_wp2_with fail
            refine (textAt_s s ((at2 : Int) + 2) (nn : Int) _ hs63).mono ?_
            rw [← hd, ← htb]
            rintro e w3 ⟨rfl, rfl⟩
            clear hd htb
            cases nb
            case false =>
              have HNo : Hid (r = none) := Lib.hid (by rw [HRY.out, if_neg]; rw [HTAIL.out]; simp)
              go_wp2_with (refine wpl_store_segM (q := noX) (A := none) (n := 0) (c := 0) rfl (by rfl) (by rfl) (by rfl) U2.out rfl ?_)
              refine bodyPost_ret (results_seg2 rfl (by rfl) (by rfl) (Bx.setCells (vs := vxC noX (.slice none 0 0)) U2.out rfl)) rfl ?_
              rw [HNo.out]
              exact seg_no UL.out
            cases tb
            case false =>
              have HNo : Hid (r = none) := Lib.hid (by rw [HRY.out, if_neg]; rw [HTAIL.out]; simp)
              go_wp2_with (refine wpl_store_segM (q := noX) (A := none) (n := 0) (c := 0) rfl (by rfl) (by rfl) (by rfl) U2.out rfl ?_)
              refine bodyPost_ret (results_seg2 rfl (by rfl) (by rfl) (Bx.setCells (vs := vxC noX (.slice none 0 0)) U2.out rfl)) rfl ?_
              rw [HNo.out]
              exact seg_no UL.out
            by_cases hq : at2 + 2 + nn = s.size
            case neg =>
              have q1 : ((at2 : Int) + 2 + (nn : Int) == (s.size : Int)) = false := by simp; omega
              have q2 : ((at2 : Int) + 2 + (nn : Int) != (s.size : Int)) = true := by simp; omega
              have HNo : Hid (r = none) := Lib.hid (by rw [HRY.out, if_neg]; intro h; exact hq h.2.1)
              go_wp2_with (refine wpl_store_segM (q := noX) (A := none) (n := 0) (c := 0) rfl (by rfl) (by rfl) (by rfl) U2.out rfl ?_)
              refine bodyPost_ret (results_seg2 rfl (by rfl) (by rfl) (Bx.setCells (vs := vxC noX (.slice none 0 0)) U2.out rfl)) rfl ?_
              rw [HNo.out]
              exact seg_no UL.out
            have q1 : ((at2 : Int) + 2 + (nn : Int) == (s.size : Int)) = true := by simp; omega
            have q2 : ((at2 : Int) + 2 + (nn : Int) != (s.size : Int)) = false := by simp; omega
            have HQ := Lib.hid hq
            clear hq
            have y8 : w2.cell? ⟨bx, 8, none⟩ = some (.string X.da) := V4.out.cell 8
            have f8 := V4.out.frozen 8
            go_upto_region 26 with (fail)
            obtain ⟨W3, hW3⟩ : ∃ W, W = w2.setCell ⟨bx, 8, none⟩ (.string d) := ⟨_, rfl⟩
            rw [← hW3]
            obtain ⟨Z, hZ⟩ : ∃ Z, Z = segOf s os d := ⟨_, rfl⟩
            have U4 : Hid (Blk W3 bx 37 (vxC Z (.slice A k cp))) := Lib.hid (by
              have h1 := V4.out.set_ 8 (.string d)
              rw [HX.out] at h1
              rw [hW3, hZ]
              exact h1)
            have R2 : Hid (Blk W3 w.heap.size 37 (vxC noX (.slice none 0 0))) := Lib.hid (by rw [hW3]; exact U2.out.far (by dsimp only; omega) _)
            have U7 : Hid (W3.cell? ⟨g, 7, none⟩ = some (.int .i64 (n8 : Int))) := Lib.hid (by rw [hW3]; exact (World.cell?_setCell_far _ _ _ _ (by dsimp only; omega)).trans V7.out)
            have OB3 : Hid (ObO W3 (bx + 1) (.slice A k cp) k Z.ops ivs) := Lib.hid (by rw [hW3, hZ]; exact OB2.out.far (by dsimp only; omega) _)
            have RL : Hid (Below w.heap.size w W3) := Lib.hid (by rw [hW3]; exact UL.out.setCell (by dsimp only; omega) _)
            have S3 : Hid (bx + 1 ≤ W3.heap.size) := Lib.hid (by rw [hW3]; simp [World.setCell]; exact S2.out)
            have HXO : Hid (Z.ops = os) := Lib.hid (by rw [hZ]; rfl)
            have XWF : Hid Z.wf := Lib.hid (by
              rw [hZ]
              refine ⟨⟨?_, ?_, ?_, ?_, ?_, ?_, ?_⟩, by show d.size ≤ maxLen; unfold maxLen; omega, fun o ho => (HOW.out o ho).1⟩ <;> exact i64R_nat (Nat.le_trans (Nat.le_of_lt (numAtN_lt s _ _)) (by decide)))
            have XID : Hid (∀ o ∈ Z.ops, o.ids.length ≤ 8) := Lib.hid (fun o ho => (HOW.out o (by rw [← HXO.out]; exact ho)).2)
            rw [← hZ] at HRY
            clear hW3 hZ U2 V4 V7 OB2 UL S2 y8 f8
            obtain ⟨b, hb⟩ : ∃ b, b = segOk Z := ⟨_, rfl⟩
            have HB := Lib.hid hb
            clear hb
            have hgw : g < W3.heap.size := by have := S3.out; omega
            have keep : ∀ w', Below W3.heap.size W3 w' → Bx w' bx (vxC Z (.slice A k cp)) ∧ w'.cell? ⟨bx, 7, none⟩ = some (.slice A k cp) ∧ w'.cell? ⟨g, 7, none⟩ = some (.int .i64 (n8 : Int)) := fun w' hb =>
              have h1 := (Bx.of_blk U4.out).below hb
              ⟨h1, h1.2 7 _ rfl, (hb.cell (p := ⟨g, 7, none⟩) hgw).trans U7.out⟩
            have HKP := Lib.hid keep
            clear keep
            refine wp_region_held_drew (S := fun w' => Bx w' bx (vxC Z (.slice A k cp)) ∧ w'.cell? ⟨bx, 7, none⟩ = some (.slice A k cp) ∧ w'.cell? ⟨g, 7, none⟩ = some (.int .i64 (n8 : Int))) (by kernel_rfl) (HKP.out _ (Below.refl W3.heap.size W3).drew) (fun hHeld => ?_)
            refine wpAnyH_take (i := 0) (oi := ⟨some 130, _, _, _, _, _⟩) rfl (by kernel_rfl) (by kernel_rfl) (by kernel_rfl) (fun _ _ _ h => h) (yields_seg (by kernel_rfl) rfl (by rfl) (fun w h => h.1)) (by assumption) ?_
            try simp only [Act.put, List.setIfInBounds_toArray, List.set_cons_zero, List.set_cons_succ]
            refine wpAnyH_ready (rs := [1]) (by kernel_rfl) (by simp) ?_
            refine AllReadyH.cons (o := ⟨some 131, _, _, _, _, _⟩) rfl (fun K hK => ?_) AllReadyH.nil
            go_simp
            (go_at_call 41; refine (segOk_s Z A k cp ivs _ (OB3.out.rd.below (Below.refl W3.heap.size W3).drew) XWF.out).mono ?_; rw [← HB.out]; rintro e W4 ⟨rfl, hb⟩)
            try go_wp2_with fail
            refine hK.out _ _ ?_ (fun hHeld => ?_)
            · exact HKP.out _ ((Below.refl W3.heap.size W3).drew.trans hb)
            clear hK K
            try simp only [Act.put, List.setIfInBounds_toArray, List.set_cons_zero, List.set_cons_succ]
            have B4 := Lib.hid ((Below.refl W3.heap.size W3).drew.trans hb)
            clear hb
            have OB4 := Lib.hid (OB3.out.below B4.out)
            have T4 := Lib.hid (U4.out.below B4.out U4.out.lt)
            have U2 := Lib.hid (R2.out.below B4.out R2.out.lt)
            have UL := Lib.hid (RL.out.trans (B4.out.mono RL.out.size))
            cases b
            case false =>
              refine wpAnyH_take (i := 2) (oi := ⟨some 132, _, _, _, _, _⟩) (v := ?_) rfl (by kernel_rfl) (by kernel_rfl) (by kernel_rfl) (fun _ _ _ h => h) (Or.inl ⟨by kernel_rfl, ?_⟩) (by assumption) ?_
              rotate_left
              · (intro w hSw; (try dsimp only at hSw); go_simp; try (with_reducible rfl))
              try simp only [Act.put, List.setIfInBounds_toArray, List.set_cons_zero, List.set_cons_succ]
              refine wpAnyH_take (i := 3) (oi := ⟨some 133, _, _, _, _, _⟩) (v := ?_) rfl (by kernel_rfl) (by kernel_rfl) (by kernel_rfl) (fun _ _ _ h => h) (Or.inl ⟨by kernel_rfl, ?_⟩) (by assumption) ?_
              rotate_left
              · (intro w hSw; (try dsimp only at hSw); go_simp; try (with_reducible rfl))
              try simp only [Act.put, List.setIfInBounds_toArray, List.set_cons_zero, List.set_cons_succ]
              refine wpAnyH_take (i := 4) (oi := ⟨some 134, _, _, _, _, _⟩) (v := undef) rfl (by kernel_rfl) (by kernel_rfl) (by kernel_rfl) (fun _ _ _ h => h) (Or.inr ⟨by kernel_rfl, rfl⟩) (by assumption) ?_
              try simp only [Act.put, List.setIfInBounds_toArray, List.set_cons_zero, List.set_cons_succ]
              refine wpAnyH_take (i := 5) (oi := ⟨some 135, _, _, _, _, _⟩) (v := undef) rfl (by kernel_rfl) (by kernel_rfl) (by kernel_rfl) (fun _ _ _ h => h) (Or.inr ⟨by kernel_rfl, rfl⟩) (by assumption) ?_
              try simp only [Act.put, List.setIfInBounds_toArray, List.set_cons_zero, List.set_cons_succ]
              refine wpAnyH_take (i := 6) (oi := ⟨some 136, _, _, _, _, _⟩) (v := undef) rfl (by kernel_rfl) (by kernel_rfl) (by kernel_rfl) (fun _ _ _ h => h) (Or.inr ⟨by kernel_rfl, rfl⟩) (by assumption) ?_
              try simp only [Act.put, List.setIfInBounds_toArray, List.set_cons_zero, List.set_cons_succ]
              refine wpAnyH_take (i := 7) (oi := ⟨some 137, _, _, _, _, _⟩) (v := undef) rfl (by kernel_rfl) (by kernel_rfl) (by kernel_rfl) (fun _ _ _ h => h) (Or.inr ⟨by kernel_rfl, rfl⟩) (by assumption) ?_
              try simp only [Act.put, List.setIfInBounds_toArray, List.set_cons_zero, List.set_cons_succ]
              refine wpAnyH_take (i := 8) (oi := ⟨some 138, _, _, _, _, _⟩) (v := undef) rfl (by kernel_rfl) (by kernel_rfl) (by kernel_rfl) (fun _ _ _ h => h) (Or.inr ⟨by kernel_rfl, rfl⟩) (by assumption) ?_
              try simp only [Act.put, List.setIfInBounds_toArray, List.set_cons_zero, List.set_cons_succ]
              refine wpAnyH_take (i := 9) (oi := ⟨some 139, _, _, _, _, _⟩) (v := undef) rfl (by kernel_rfl) (by kernel_rfl) (by kernel_rfl) (fun _ _ _ h => h) (Or.inr ⟨by kernel_rfl, rfl⟩) (by assumption) ?_
              try simp only [Act.put, List.setIfInBounds_toArray, List.set_cons_zero, List.set_cons_succ]
              refine wpAnyH_take (i := 10) (oi := ⟨some 140, _, _, _, _, _⟩) (v := undef) rfl (by kernel_rfl) (by kernel_rfl) (by kernel_rfl) (fun _ _ _ h => h) (Or.inr ⟨by kernel_rfl, rfl⟩) (by assumption) ?_
              try simp only [Act.put, List.setIfInBounds_toArray, List.set_cons_zero, List.set_cons_succ]
              refine wpAnyH_take (i := 11) (oi := ⟨some 141, _, _, _, _, _⟩) (v := ?_) rfl (by kernel_rfl) (by kernel_rfl) (by kernel_rfl) (fun _ _ _ h => h) (Or.inl ⟨by kernel_rfl, ?_⟩) (by assumption) ?_
              rotate_left
              · (intro w hSw; (try dsimp only at hSw); go_simp; try (with_reducible rfl))
              try simp only [Act.put, List.setIfInBounds_toArray, List.set_cons_zero, List.set_cons_succ]
              refine wpAnyH_done (by kernel_rfl) ?_ _
              repeat clear hHeld
              have HNo : Hid (r = none) := Lib.hid (by rw [HRY.out, if_neg]; intro h; rw [← HB.out] at h; cases h.2.2.1)
              go_wp2_with (refine wpl_store_segM (q := noX) (A := none) (n := 0) (c := 0) rfl (by rfl) (by rfl) (by rfl) U2.out rfl ?_)
              refine bodyPost_ret (results_seg2 rfl (by rfl) (by rfl) (Bx.setCells (vs := vxC noX (.slice none 0 0)) U2.out rfl)) rfl ?_
              rw [HNo.out]
              exact seg_no UL.out
            by_cases hkn : k = n8
            · have q3 : ((k : Int) == (n8 : Int)) = true := by simp; omega
              have q4 : ((k : Int) != (n8 : Int)) = false := by simp; omega
              have HY : Hid (r = some Z) := Lib.hid (by rw [HRY.out, if_pos]; exact ⟨by rw [HTAIL.out]; rfl, HQ.out, HB.out.symm, by rw [HLO.out]; exact hkn⟩)
              clear hkn
              refine wpAnyH_take (i := 2) (oi := ⟨some 132, _, _, _, _, _⟩) (v := ?_) rfl (by kernel_rfl) (by kernel_rfl) (by kernel_rfl) (fun _ _ _ h => h) (Or.inl ⟨by kernel_rfl, ?_⟩) (by assumption) ?_
              rotate_left
              · (intro w hSw; (try dsimp only at hSw); go_simp; try (with_reducible rfl))
              try simp only [Act.put, List.setIfInBounds_toArray, List.set_cons_zero, List.set_cons_succ]
              refine wpAnyH_take (i := 3) (oi := ⟨some 133, _, _, _, _, _⟩) (v := ?_) rfl (by kernel_rfl) (by kernel_rfl) (by kernel_rfl) (fun _ _ _ h => h) (Or.inl ⟨by kernel_rfl, ?_⟩) (by assumption) ?_
              rotate_left
              · (intro w hSw; (try dsimp only at hSw); go_simp; try (with_reducible rfl))
              try simp only [Act.put, List.setIfInBounds_toArray, List.set_cons_zero, List.set_cons_succ]
              refine wpAnyH_take (i := 4) (oi := ⟨some 134, _, _, _, _, _⟩) (v := ?_) rfl (by kernel_rfl) (by kernel_rfl) (by kernel_rfl) (fun _ _ _ h => h) (Or.inl ⟨by kernel_rfl, ?_⟩) (by assumption) ?_
              rotate_left
              · (intro w hSw; (try dsimp only at hSw); go_simp; try (with_reducible rfl))
              try simp only [Act.put, List.setIfInBounds_toArray, List.set_cons_zero, List.set_cons_succ]
              refine wpAnyH_take (i := 5) (oi := ⟨some 135, _, _, _, _, _⟩) (v := ?_) rfl (by kernel_rfl) (by kernel_rfl) (by kernel_rfl) (fun _ _ _ h => h) (Or.inl ⟨by kernel_rfl, ?_⟩) (by assumption) ?_
              rotate_left
              · (intro w hSw; (try dsimp only at hSw); go_simp; try (with_reducible rfl))
              try simp only [Act.put, List.setIfInBounds_toArray, List.set_cons_zero, List.set_cons_succ]
              refine wpAnyH_take (i := 6) (oi := ⟨some 136, _, _, _, _, _⟩) (v := ?_) rfl (by kernel_rfl) (by kernel_rfl) (by kernel_rfl) (fun _ _ _ h => h) (Or.inl ⟨by kernel_rfl, ?_⟩) (by assumption) ?_
              rotate_left
              · (intro w hSw; (try dsimp only at hSw); go_simp; try (with_reducible rfl))
              try simp only [Act.put, List.setIfInBounds_toArray, List.set_cons_zero, List.set_cons_succ]
              refine wpAnyH_take (i := 7) (oi := ⟨some 137, _, _, _, _, _⟩) (v := ?_) rfl (by kernel_rfl) (by kernel_rfl) (by kernel_rfl) (fun _ _ _ h => h) (Or.inl ⟨by kernel_rfl, ?_⟩) (by assumption) ?_
              rotate_left
              · (intro w hSw; (try dsimp only at hSw); go_simp; try (with_reducible rfl))
              try simp only [Act.put, List.setIfInBounds_toArray, List.set_cons_zero, List.set_cons_succ]
              refine wpAnyH_take (i := 8) (oi := ⟨some 138, _, _, _, _, _⟩) (v := ?_) rfl (by kernel_rfl) (by kernel_rfl) (by kernel_rfl) (fun _ _ _ h => h) (Or.inl ⟨by kernel_rfl, ?_⟩) (by assumption) ?_
              rotate_left
              · (intro w hSw; (try dsimp only at hSw); go_simp; try (with_reducible rfl))
              try simp only [Act.put, List.setIfInBounds_toArray, List.set_cons_zero, List.set_cons_succ]
              refine wpAnyH_take (i := 9) (oi := ⟨some 139, _, _, _, _, _⟩) (v := ?_) rfl (by kernel_rfl) (by kernel_rfl) (by kernel_rfl) (fun _ _ _ h => h) (Or.inl ⟨by kernel_rfl, ?_⟩) (by assumption) ?_
              rotate_left
              · (intro w hSw; (try dsimp only at hSw); go_simp; try (with_reducible rfl))
              try simp only [Act.put, List.setIfInBounds_toArray, List.set_cons_zero, List.set_cons_succ]
              refine wpAnyH_take (i := 10) (oi := ⟨some 140, _, _, _, _, _⟩) (v := ?_) rfl (by kernel_rfl) (by kernel_rfl) (by kernel_rfl) (fun _ _ _ h => h) (Or.inl ⟨by kernel_rfl, ?_⟩) (by assumption) ?_
              rotate_left
              · (intro w hSw; (try dsimp only at hSw); go_simp; try (with_reducible rfl))
              try simp only [Act.put, List.setIfInBounds_toArray, List.set_cons_zero, List.set_cons_succ]
              refine wpAnyH_take (i := 11) (oi := ⟨some 141, _, _, _, _, _⟩) (v := ?_) rfl (by kernel_rfl) (by kernel_rfl) (by kernel_rfl) (fun _ _ _ h => h) (Or.inl ⟨by kernel_rfl, ?_⟩) (by assumption) ?_
              rotate_left
              · (intro w hSw; (try dsimp only at hSw); go_simp; try (with_reducible rfl))
              try simp only [Act.put, List.setIfInBounds_toArray, List.set_cons_zero, List.set_cons_succ]
              refine wpAnyH_done (by kernel_rfl) ?_ _
              repeat clear hHeld
              go_wp2_with (first | (refine wpl_segI rfl (by rfl) (by rfl) (Bx.of_blk T4.out) ?_) | (refine wpl_store_segM (q := Z) rfl (by rfl) (by rfl) (by rfl) U2.out rfl ?_))
              refine bodyPost_ret (results_seg2 rfl (by rfl) (by rfl) (Bx.setCells (vs := vxC Z (.slice A k cp)) U2.out rfl)) rfl ?_
              rw [HY.out]
              refine ⟨.slice A k cp, ivs, rfl, ?_, AP.out, XWF.out, XID.out, Below.setCells' UL.out (Nat.le_refl _) _ _⟩
              have h1 := OB4.out
              have h2 : Z.ops.length = k := by rw [HXO.out]; exact HLO.out
              rw [h2]
              exact ⟨h1.lo, h1.li, (h1.row.farS (by omega) _ _).mono (by omega), fun i p c hp hc => ((h1.ids i p c hp hc).farS (by omega) _ _).mono (by omega)⟩
            · have q3 : ((k : Int) == (n8 : Int)) = false := by simp; omega
              have q4 : ((k : Int) != (n8 : Int)) = true := by simp; omega
              have HNo : Hid (r = none) := Lib.hid (by rw [HRY.out, if_neg]; intro h; exact hkn (by rw [← HLO.out]; exact h.2.2.2))
              clear hkn
              refine wpAnyH_take (i := 2) (oi := ⟨some 132, _, _, _, _, _⟩) (v := ?_) rfl (by kernel_rfl) (by kernel_rfl) (by kernel_rfl) (fun _ _ _ h => h) (Or.inl ⟨by kernel_rfl, ?_⟩) (by assumption) ?_
              rotate_left
              · (intro w hSw; (try dsimp only at hSw); go_simp; try (with_reducible rfl))
              try simp only [Act.put, List.setIfInBounds_toArray, List.set_cons_zero, List.set_cons_succ]
              refine wpAnyH_take (i := 3) (oi := ⟨some 133, _, _, _, _, _⟩) (v := ?_) rfl (by kernel_rfl) (by kernel_rfl) (by kernel_rfl) (fun _ _ _ h => h) (Or.inl ⟨by kernel_rfl, ?_⟩) (by assumption) ?_
              rotate_left
              · (intro w hSw; (try dsimp only at hSw); go_simp; try (with_reducible rfl))
              try simp only [Act.put, List.setIfInBounds_toArray, List.set_cons_zero, List.set_cons_succ]
              refine wpAnyH_take (i := 4) (oi := ⟨some 134, _, _, _, _, _⟩) (v := ?_) rfl (by kernel_rfl) (by kernel_rfl) (by kernel_rfl) (fun _ _ _ h => h) (Or.inl ⟨by kernel_rfl, ?_⟩) (by assumption) ?_
              rotate_left
              · (intro w hSw; (try dsimp only at hSw); go_simp; try (with_reducible rfl))
              try simp only [Act.put, List.setIfInBounds_toArray, List.set_cons_zero, List.set_cons_succ]
              refine wpAnyH_take (i := 5) (oi := ⟨some 135, _, _, _, _, _⟩) (v := ?_) rfl (by kernel_rfl) (by kernel_rfl) (by kernel_rfl) (fun _ _ _ h => h) (Or.inl ⟨by kernel_rfl, ?_⟩) (by assumption) ?_
              rotate_left
              · (intro w hSw; (try dsimp only at hSw); go_simp; try (with_reducible rfl))
              try simp only [Act.put, List.setIfInBounds_toArray, List.set_cons_zero, List.set_cons_succ]
              refine wpAnyH_take (i := 6) (oi := ⟨some 136, _, _, _, _, _⟩) (v := ?_) rfl (by kernel_rfl) (by kernel_rfl) (by kernel_rfl) (fun _ _ _ h => h) (Or.inl ⟨by kernel_rfl, ?_⟩) (by assumption) ?_
              rotate_left
              · (intro w hSw; (try dsimp only at hSw); go_simp; try (with_reducible rfl))
              try simp only [Act.put, List.setIfInBounds_toArray, List.set_cons_zero, List.set_cons_succ]
              refine wpAnyH_take (i := 7) (oi := ⟨some 137, _, _, _, _, _⟩) (v := ?_) rfl (by kernel_rfl) (by kernel_rfl) (by kernel_rfl) (fun _ _ _ h => h) (Or.inl ⟨by kernel_rfl, ?_⟩) (by assumption) ?_
              rotate_left
              · (intro w hSw; (try dsimp only at hSw); go_simp; try (with_reducible rfl))
              try simp only [Act.put, List.setIfInBounds_toArray, List.set_cons_zero, List.set_cons_succ]
              refine wpAnyH_take (i := 8) (oi := ⟨some 138, _, _, _, _, _⟩) (v := ?_) rfl (by kernel_rfl) (by kernel_rfl) (by kernel_rfl) (fun _ _ _ h => h) (Or.inl ⟨by kernel_rfl, ?_⟩) (by assumption) ?_
              rotate_left
              · (intro w hSw; (try dsimp only at hSw); go_simp; try (with_reducible rfl))
              try simp only [Act.put, List.setIfInBounds_toArray, List.set_cons_zero, List.set_cons_succ]
              refine wpAnyH_take (i := 9) (oi := ⟨some 139, _, _, _, _, _⟩) (v := ?_) rfl (by kernel_rfl) (by kernel_rfl) (by kernel_rfl) (fun _ _ _ h => h) (Or.inl ⟨by kernel_rfl, ?_⟩) (by assumption) ?_
              rotate_left
              · (intro w hSw; (try dsimp only at hSw); go_simp; try (with_reducible rfl))
              try simp only [Act.put, List.setIfInBounds_toArray, List.set_cons_zero, List.set_cons_succ]
              refine wpAnyH_take (i := 10) (oi := ⟨some 140, _, _, _, _, _⟩) (v := ?_) rfl (by kernel_rfl) (by kernel_rfl) (by kernel_rfl) (fun _ _ _ h => h) (Or.inl ⟨by kernel_rfl, ?_⟩) (by assumption) ?_
              rotate_left
              · (intro w hSw; (try dsimp only at hSw); go_simp; try (with_reducible rfl))
              try simp only [Act.put, List.setIfInBounds_toArray, List.set_cons_zero, List.set_cons_succ]
              refine wpAnyH_take (i := 11) (oi := ⟨some 141, _, _, _, _, _⟩) (v := ?_) rfl (by kernel_rfl) (by kernel_rfl) (by kernel_rfl) (fun _ _ _ h => h) (Or.inl ⟨by kernel_rfl, ?_⟩) (by assumption) ?_
              rotate_left
              · (intro w hSw; (try dsimp only at hSw); go_simp; try (with_reducible rfl))
              try simp only [Act.put, List.setIfInBounds_toArray, List.set_cons_zero, List.set_cons_succ]
              refine wpAnyH_done (by kernel_rfl) ?_ _
              repeat clear hHeld
              go_wp2_with (refine wpl_store_segM (q := noX) (A := none) (n := 0) (c := 0) rfl (by rfl) (by rfl) (by rfl) U2.out rfl ?_)
              refine bodyPost_ret (results_seg2 rfl (by rfl) (by rfl) (Bx.setCells (vs := vxC noX (.slice none 0 0)) U2.out rfl)) rfl ?_
              rw [HNo.out]
              exact seg_no UL.out
end Go.Proofs.Ytkgbkgonlopciaa

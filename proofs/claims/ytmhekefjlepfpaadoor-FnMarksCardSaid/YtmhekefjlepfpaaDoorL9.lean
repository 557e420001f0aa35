/- The walk of the law that the digest is what its blocks come to. -/
import Derived.Test.YtmhekefjlepfpaaDoorProg
import Derived.Test.YtmhekefjlepfpaaDoorK
import Derived.Test.YtmhekefjlepfpaaDoorK2
import Derived.Test.YtmhekefjlepfpaaDoorK3
import Derived.Test.YtmhekefjlepfpaaDoorK4
import Derived.Test.YtmhekefjlepfpaaDoorN
import Derived.Test.YtmhekefjlepfpaaDoorS
import Derived.Test.YtmhekefjlepfpaaDoorS2
import Derived.Test.YtmhekefjlepfpaaDoorA1
import Derived.Test.YtmhekefjlepfpaaDoorA2
import Derived.Test.YtmhekefjlepfpaaDoorA4
import Derived.Test.YtmhekefjlepfpaaDoorB4
import Derived.Test.YtmhekefjlepfpaaDoorB5
import Derived.Test.YtmhekefjlepfpaaDoorB6
import Derived.Test.YtmhekefjlepfpaaDoorB9
import Derived.Test.YtmhekefjlepfpaaDoorB12
import Derived.Test.YtmhekefjlepfpaaDoorD1
import Derived.Test.YtmhekefjlepfpaaDoorD3
import Derived.Test.YtmhekefjlepfpaaDoorL8
import Derived.RegionTactic
import Derived.Outline
namespace Go.Proofs.YtmhekefjlepfpaaDoor
open Go.RowKit
set_option linter.unusedVariables false
set_option linter.unusedSimpArgs false

theorem padL_pre (l : List UInt8) : (padL l).take l.length = l := by simp [padL]
theorem u8_range {xs : List Int} (hx : ∀ x ∈ xs, (Lit.int .u8 x).wf = true) : ∀ x ∈ xs, 0 ≤ x ∧ x ≤ 255 := fun x h => bounds_u8 (hx x h)
theorem stI_words (s : St) : (stl s).map vu = ((stl s).map (fun (x : Nat) => (x : Int))).map vn := by simp only [List.map_map]; rfl
set_option maxHeartbeats 2000000 in
theorem law_FnDigests (v : Value) (n : Nat) (xs : List Int) (w : World) (hv : Rd w 1 v n (xs.map (Value.int .u8))) (hx : ∀ x ∈ xs, (Lit.int .u8 x).wf = true) (hK : HoldsK w) (hS : HoldsS w) :
    Calls Tryd.prog 19 #[v] w fun e w' => e = .returned (.bool true) ∧ Below w.heap.size w w' := by
  have HV := Lib.hid hv
  have HX := Lib.hid (u8_range hx)
  clear hv hx
  have HKS := Lib.hid (And.intro hK hS)
  clear hK hS
  by_cases hb : n ≤ 1048576
  case neg =>
    go_enter Tryd.func19, Tryd.ntmps19
    go_wp2_with fail
    refine (big_l v n _ _ HV.out).mono ?_
    rintro e w1 ⟨rfl, rfl⟩
    go_wp2
    go_ret
    exact ⟨rfl, Below.refl _ _⟩
  have HB : Hid (decide (1048576 < (n : Int)) = false) := Lib.hid (by simp; omega)
  have HN := Lib.hid hb
  clear hb
  go_enter Tryd.func19, Tryd.ntmps19
  go_wp2_with fail
  refine (big_l v n _ _ HV.out).mono ?_
  rintro e w1 ⟨rfl, rfl⟩
  rw [HB.out]
  go_wp2_with fail
  refine (drawDigest_s v n xs _ HV.out HX.out HN.out).mono ?_
  rintro e w1 ⟨s, hs, rfl, hb1⟩
  have L1 := Lib.hid hb1
  clear hb1
  go_wp2_with fail
  refine (padText_i s _ (by omega)).mono ?_
  rintro e w2 ⟨rfl, hb2⟩
  have L2 := Lib.hid (L1.out.trans (hb2.mono L1.out.size))
  clear hb2
  obtain ⟨P, hP⟩ : ∃ P, P = str (padL s.data.toList) := ⟨_, rfl⟩
  rw [← hP]
  obtain ⟨B, hB⟩ : ∃ B, P.size = 64 * B := ⟨P.size / 64, by have := padL_mod s.data.toList; rw [hP, str_size]; omega⟩
  have hPs : P.size = s.size + 9 + padN s.size := by rw [hP, str_size, padL_len]; simp
  have hpn : padN s.size < 64 := by unfold padN; omega
  have hPe : P.extract 0 s.size = s := by
    have e : (P.extract 0 s.size).data.toList = s.data.toList := by
      rw [ext_data _ _ _ (by omega), hP, str_toList, Nat.sub_zero, List.drop_zero]
      have := padL_pre s.data.toList
      simpa using this
    rw [← str_of (P.extract 0 s.size), e, str_of]
  have hm0 : ((P.size : Int) % 64 == 0) = true := by simp; omega
  have hm1 : ((P.size : Int) % 64 != 0) = false := by simp; omega
  have hle1 : ¬ (P.size : Int) < (s.size : Int) + 9 := by omega
  have hle2 : ¬ (s.size : Int) + 72 < (P.size : Int) := by omega
  have hle3 : (s.size : Int) ≤ (P.size : Int) := by omega
  have hPm : P.size ≤ 1000 := by omega
  obtain ⟨D, hD⟩ : ∃ D, D = str (digL s.data.toList) := ⟨_, rfl⟩
  have HD := Lib.hid hD
  have HT : Hid (str (stB (stF P.data.toList B)) = D) := Lib.hid (by rw [hD, hP, str_toList]; unfold digL; congr 3; rw [hP, str_size] at hB; omega)
  have hDs : D.size = 32 := by rw [hD, str_size, digL_len]
  have HC : Hid (str (cutL (digL s.data.toList) 20) = D.extract 0 20) := Lib.hid (by
    rw [hD, cut_str _ _ (by rw [digL_len]; omega)]
    unfold cutL
    rw [if_pos (by omega)]
    rfl)
  have HPB := Lib.hid hB
  have HPS := Lib.hid hPs
  have HPE := Lib.hid hPe
  have HS := Lib.hid (show s.size ≤ 200 from hs)
  clear hs hP hB hPs hD hPe hpn
  have hPe := HPE.out
  go_wp2_with fail
  refine (shaStart_i _ (HKS.out.2.below L2.out)).mono ?_
  rintro e w3 ⟨v3, rfl, ho, hb3⟩
  have O3 := Lib.hid (ho.mono L2.out.size)
  have L3 := Lib.hid (L2.out.trans (hb3.mono L2.out.size))
  clear ho hb3
  rw [show (stl start0) = stl (stF P.data.toList 0) from rfl] at O3
  go_wp2
  go_loopw [5, 6] (fun v i wr => ∃ k : Nat, k ≤ B ∧ i = .int .i64 (64 * (k : Int)) ∧ Hid (Obs wr w.heap.size 1 v 8 ((stl (stF P.data.toList k)).map vu)) ∧ Hid (Below w.heap.size w wr)) (fun _ i _ => 64 * B - (intOf i).toNat)
  case atStart => exact ⟨0, Nat.zero_le _, rfl, O3, L3⟩
  case round =>
    clear O3 L3
    obtain ⟨k, hk, rfl, OK, LK⟩ := hrel
    by_cases hlt : k < B
    · obtain ⟨blk, hblk⟩ : ∃ blk, blk = P.extract (64 * k) (64 * k + 64) := ⟨_, rfl⟩
      have hbs : blk.size = 64 := by rw [hblk]; have := HPB.out; simp; omega
      have HR : Hid (compS (stF P.data.toList k) blk.data.toList = stF P.data.toList (k + 1)) := Lib.hid (by
        rw [hblk, ext_data _ _ _ (by have := HPB.out; omega), show 64 * k + 64 - 64 * k = 64 by omega]
        rfl)
      have HBLK := Lib.hid hblk
      have HBS := Lib.hid hbs
      clear hblk hbs
      have hx1 : 64 * (k : Int) < (P.size : Int) := by have := HPB.out; omega
      have hx2 : 64 * (k : Int) + 64 ≤ (P.size : Int) := by have := HPB.out; omega
      have hx4 : (64 * (k : Int)).toNat = 64 * k := by omega
      have hx5 : (64 * (k : Int) + 64).toNat = 64 * k + 64 := by omega
      rw [stI_words] at OK
      go_wp2_with fail
      rw [← HBLK.out]
      refine (shaBlock_i _ 8 _ _ blk _ OK.out (by omega) (HKS.out.1.below LK.out)).mono ?_
      rintro e w4 ⟨v4, rfl, ho, hb4⟩
      rw [shaBlockL_yes (stF_ok _ _) HBS.out, HR.out, ← stI_words] at ho
      have O4 := Lib.hid (ho.mono LK.out.size)
      have L4 := Lib.hid (LK.out.trans (hb4.mono LK.out.size))
      clear ho hb4
      go_wp2
      go_roundw
      case rel => exact ⟨k + 1, by omega, by go_num, O4, L4⟩
      case measure => simp [intOf]; omega
    · have hkB : k = B := by omega
      obtain ⟨t, ht⟩ : ∃ t, t = stF P.data.toList k := ⟨_, rfl⟩
      have tok : t.ok := by rw [ht]; exact stF_ok _ _
      rw [← ht] at OK
      have HT2 : Hid (str (wordB t 8) = D) := Lib.hid (by rw [wordB_all, ht, hkB]; exact HT.out)
      have hge : ¬ 64 * (k : Int) < (P.size : Int) := by have := HPB.out; omega
      clear ht hkB
      obtain ⟨g, cap, rfl⟩ := OK.out.full (by omega)
      obtain ⟨wo, rfl⟩ : ∃ wo : World, wo = wr := ⟨_, rfl⟩
      have LO := LK
      go_wp2
      go_loopw [7, 8] (fun v i wr => ∃ j : Nat, j ≤ 8 ∧ i = .int .i64 (j : Int) ∧ v = .string (str (wordB t j)) ∧ Hid (Below wo.heap.size wo wr)) (fun _ i _ => 8 - (intOf i).toNat)
      case atStart => exact ⟨0, Nat.zero_le _, rfl, rfl, Lib.hid (Below.refl _ _)⟩
      case round =>
        clear LK
        obtain ⟨j, hj, rfl, rfl, LJ⟩ := hrel
        by_cases hlt8 : j < 8
        · obtain ⟨x, hx⟩ : ∃ x, x = (stl t).getD j 0 := ⟨_, rfl⟩
          have hx32 : x < 4294967296 := by rw [hx]; exact stl_lt tok j
          have c1 : wr.cell? ⟨g, j, none⟩ = some (.int .i64 (x : Int)) := ((OK.out.below LJ.out).cellAt (by rw [stI_words, hx]; exact stl_vn hlt8)).1
          have HW : Hid (str (wordB t j) ++ str (be x 4) = str (wordB t (j + 1))) := Lib.hid (by rw [str_add, wordB_succ hlt8, hx])
          have s1 : (str (wordB t j)).size = 4 * j := by rw [str_size, wordB_len hj]
          have s2 : (str (be x 4)).size = 4 := by rw [str_size, be_len]
          clear hx
          go_wp2_with fail
          refine (numText_s_yes x 4 _ (by omega) (by omega) (by omega)).mono ?_
          rintro e w5 ⟨rfl, hb5⟩
          have L5 := Lib.hid (LJ.out.trans (hb5.mono LJ.out.size))
          clear hb5
          go_wp2
          go_roundw
          case rel => exact ⟨j + 1, by omega, by go_num, by rw [← HW.out], L5⟩
          case measure => simp [intOf]; omega
        · have hj8 : j = 8 := by omega
          have HJ : Hid (str (wordB t j) = D) := Lib.hid (by rw [hj8]; exact HT2.out)
          have LW := Lib.hid (LO.out.trans (LJ.out.mono LO.out.size))
          have hge8 : ¬ (j : Int) < 8 := by omega
          clear hj8
          rw [HJ.out]
          go_wp2
          refine wp_region_any (by kernel_rfl) ?_
          try (change wpAny _ _ _ _ _ _ _ (World.drew _))
          refine wpAny_take (i := 0) (v := ?_) rfl (by kernel_rfl) (by kernel_rfl) (by kernel_rfl) (fun _ _ _ h => h) (Or.inl ⟨by kernel_rfl, ?_⟩) ?_
          rotate_left
          · (intro w; go_simp; try (with_reducible rfl))
          refine wpAny_take (i := 2) (v := ?_) rfl (by kernel_rfl) (by kernel_rfl) (by kernel_rfl) (fun _ _ _ h => h) (Or.inl ⟨by kernel_rfl, ?_⟩) ?_
          rotate_left
          · (intro w; go_simp; try (with_reducible rfl))
          refine wpAny_ready (rs := [1]) (by kernel_rfl) (by simp) ?_
          refine AllReady.cons rfl (fun K hK => ?_) AllReady.nil
          go_simp
          go_wp2_with (go_at_call 27; refine (digest_i s _ (by have := HS.out; omega) (HKS.out.1.below LW.out.drew) (HKS.out.2.below LW.out.drew)).mono ?_; rintro e w6 ⟨rfl, hb6⟩; rw [← HD.out]; have L6 := Lib.hid (LW.out.drew.trans (hb6.mono LW.out.size)); clear hb6)
          refine wpAny_take (i := 3) (v := ?_) rfl (by kernel_rfl) (by kernel_rfl) (by kernel_rfl) (fun _ _ _ h => h) (Or.inl ⟨by kernel_rfl, ?_⟩) ?_
          rotate_left
          · (intro w; go_simp; try (with_reducible rfl))
          refine wpAny_take (i := 4) (v := ?_) rfl (by kernel_rfl) (by kernel_rfl) (by kernel_rfl) (fun _ _ _ h => h) (Or.inl ⟨by kernel_rfl, ?_⟩) ?_
          rotate_left
          · (intro w; go_simp; try (with_reducible rfl))
          refine wpAny_take (i := 5) (v := ?_) rfl (by kernel_rfl) (by kernel_rfl) (by kernel_rfl) (fun _ _ _ h => h) (Or.inl ⟨by kernel_rfl, ?_⟩) ?_
          rotate_left
          · (intro w; go_simp; try (with_reducible rfl))
          refine wpAny_take (i := 6) (v := ?_) rfl (by kernel_rfl) (by kernel_rfl) (by kernel_rfl) (fun _ _ _ h => h) (Or.inl ⟨by kernel_rfl, ?_⟩) ?_
          rotate_left
          · (intro w; go_simp; try (with_reducible rfl))
          refine wpAny_take (i := 7) (v := ?_) rfl (by kernel_rfl) (by kernel_rfl) (by kernel_rfl) (fun _ _ _ h => h) (Or.inl ⟨by kernel_rfl, ?_⟩) ?_
          rotate_left
          · (intro w; go_simp; try (with_reducible rfl))
          refine wpAny_take (i := 8) (v := ?_) rfl (by kernel_rfl) (by kernel_rfl) (by kernel_rfl) (fun _ _ _ h => h) (Or.inl ⟨by kernel_rfl, ?_⟩) ?_
          rotate_left
          · (intro w; go_simp; try (with_reducible rfl))
          refine wpAny_take (i := 9) (v := ?_) rfl (by kernel_rfl) (by kernel_rfl) (by kernel_rfl) (fun _ _ _ h => h) (Or.inl ⟨by kernel_rfl, ?_⟩) ?_
          rotate_left
          · (intro w; go_simp; try (with_reducible rfl))
          refine wpAny_take (i := 10) (v := ?_) rfl (by kernel_rfl) (by kernel_rfl) (by kernel_rfl) (fun _ _ _ h => h) (Or.inl ⟨by kernel_rfl, ?_⟩) ?_
          rotate_left
          · (intro w; go_simp; try (with_reducible rfl))
          refine wpAny_take (i := 12) (v := ?_) rfl (by kernel_rfl) (by kernel_rfl) (by kernel_rfl) (fun _ _ _ h => h) (Or.inl ⟨by kernel_rfl, ?_⟩) ?_
          rotate_left
          · (intro w; go_simp; try (with_reducible rfl))
          refine wpAny_take (i := 13) (v := ?_) rfl (by kernel_rfl) (by kernel_rfl) (by kernel_rfl) (fun _ _ _ h => h) (Or.inl ⟨by kernel_rfl, ?_⟩) ?_
          rotate_left
          · (intro w; go_simp; try (with_reducible rfl))
          refine wpAny_ready (rs := [11]) (by kernel_rfl) (by simp) ?_
          refine AllReady.cons rfl (fun K hK => ?_) AllReady.nil
          go_simp
          go_wp2_with (go_at_call 29; refine (cutDigest_i s 20 _ (by have := HS.out; omega) (HKS.out.1.below L6.out) (HKS.out.2.below L6.out)).mono ?_; rintro e w7 ⟨rfl, hb7⟩; rw [HC.out]; have L7 := Lib.hid (L6.out.trans (hb7.mono L6.out.size)); clear hb7)
          refine wpAny_take (i := 14) (v := ?_) rfl (by kernel_rfl) (by kernel_rfl) (by kernel_rfl) (fun _ _ _ h => h) (Or.inl ⟨by kernel_rfl, ?_⟩) ?_
          rotate_left
          · (intro w; go_simp; try (with_reducible rfl))
          refine wpAny_take (i := 15) (v := ?_) rfl (by kernel_rfl) (by kernel_rfl) (by kernel_rfl) (fun _ _ _ h => h) (Or.inl ⟨by kernel_rfl, ?_⟩) ?_
          rotate_left
          · (intro w; go_simp; try (with_reducible rfl))
          refine wpAny_take (i := 16) (v := ?_) rfl (by kernel_rfl) (by kernel_rfl) (by kernel_rfl) (fun _ _ _ h => h) (Or.inl ⟨by kernel_rfl, ?_⟩) ?_
          rotate_left
          · (intro w; go_simp; try (with_reducible rfl))
          refine wpAny_done (by kernel_rfl) ?_ _
          go_wp2
          go_ret
          exact ⟨rfl, L7.out⟩
end Go.Proofs.YtmhekefjlepfpaaDoor

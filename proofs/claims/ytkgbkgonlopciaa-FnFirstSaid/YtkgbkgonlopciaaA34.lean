/- The walks: the laws' own comparisons of options and segments. -/
import Derived.Test.YtkgbkgonlopciaaA12
import Derived.Test.YtkgbkgonlopciaaA32
import Derived.Deep.Cut
import Derived.Deep.RegionHeld
namespace Go.Proofs.Ytkgbkgonlopciaa
open Go.RowKit
set_option linter.unusedVariables false
set_option linter.unusedSimpArgs false
set_option maxRecDepth 100000 in
theorem sameInts_l (v1 v2 : Value) (n m : Nat) (xs ys : List Int) (w : World) (h1 : Rd w 1 v1 n (xs.map vn)) (h2 : Rd w 1 v2 m (ys.map vn)) :
    Calls Try.prog 64 #[v1, v2] w fun e w' => e = .returned (.bool (eqLI xs ys)) ∧ Below w.heap.size w w' := by
  obtain ⟨A1, c1, rfl, hm1⟩ := h1.shape
  obtain ⟨A2, c2, rfl, hm2⟩ := h2.shape
  unfold maxLen at hm1 hm2
  have hn := rd_ids h1
  have hm := rd_ids h2
  have H1 := Lib.hid h1
  have H2 := Lib.hid h2
  clear h1 h2
  by_cases hnm : n = m
  case neg =>
    have HB : Hid (eqLI xs ys = false) := Lib.hid (eqLI_no (fun e => hnm (by rw [hn, hm, e])))
    have q1 : ((n : Int) == (m : Int)) = false := by simp; omega
    have q2 : ((n : Int) != (m : Int)) = true := by simp; omega
    clear hn hm
    go_enter Try.func64, Try.ntmps64
    go_wp2
    go_ret
    exact ⟨ret_bool HB.out.symm, Below.refl _ _⟩
  subst hnm
  have HL := Lib.hid (hn.symm.trans hm)
  have HNX := Lib.hid hn
  clear hn hm
  go_enter Try.func64, Try.ntmps64
  go_wp2
  go_loopw [5] (fun i wr => ∃ k : Nat, k ≤ n ∧ i = .int .i64 (k : Int) ∧ Hid (∀ j, j < k → xs.getD j 0 = ys.getD j 0) ∧ Hid (Below w.heap.size w wr)) (fun i _ => n - (intOf i).toNat)
  case atStart => exact ⟨0, Nat.zero_le _, rfl, Lib.hid (fun j hj => by omega), Lib.hid (Below.refl _ _)⟩
  case round =>
    obtain ⟨k, hk, rfl, HP, HN⟩ := hrel
    by_cases hlt : k < n
    case neg =>
      obtain rfl : k = n := by omega
      have HB : Hid (eqLI xs ys = true) := Lib.hid (eqLI_all HL.out (fun j hj => HP.out j (by have := HNX.out; omega)))
      go_wp2
      go_ret
      exact ⟨ret_bool HB.out.symm, HN.out⟩
    obtain ⟨b1, o1, _, he, _, _, _⟩ := H1.out.full (by omega)
    simp only [Value.slice.injEq] at he
    obtain ⟨rfl, _, rfl⟩ := he
    obtain ⟨b2, o2, _, he, _, _, _⟩ := H2.out.full (by omega)
    simp only [Value.slice.injEq] at he
    obtain ⟨rfl, _, rfl⟩ := he
    obtain ⟨g1, p1⟩ := (H1.out.below HN.out).at1 hlt
    obtain ⟨g2, p2⟩ := (H2.out.below HN.out).at1 hlt
    obtain ⟨x, hx⟩ : ∃ a, a = xs.getD k 0 := ⟨_, rfl⟩
    obtain ⟨y, hy⟩ : ∃ a, a = ys.getD k 0 := ⟨_, rfl⟩
    rw [← hx] at p1
    rw [← hy] at p2
    by_cases hxy : x = y
    · have HP2 : Hid (∀ j, j < k + 1 → xs.getD j 0 = ys.getD j 0) := Lib.hid (fun j hj => by
        by_cases e : j = k
        · rw [e, ← hx, ← hy, hxy]
        · exact HP.out j (by omega))
      subst hxy
      clear hx hy
      go_wp2_with fail
      go_quiet (fail)
      go_wp2
      go_roundw
      case rel => exact ⟨k + 1, by omega, by go_num, HP2, Lib.hid (below_drewN HN.out _)⟩
      case measure => (simp [intOf]; try omega)
    · have HB : Hid (eqLI xs ys = false) := Lib.hid (eqLI_at (k := k) (by rw [← hx, ← hy]; exact hxy))
      have q1 : (x == y) = false := by simp [hxy]
      have q2 : (x != y) = true := by simp [hxy]
      clear hx hy
      go_wp2_with fail
      go_quiet (fail)
      go_wp2
      go_ret
      exact ⟨ret_bool HB.out.symm, below_drewN HN.out _⟩
set_option maxRecDepth 100000 in
set_option maxHeartbeats 6400000 in
theorem sameOpt_l (a b : OD) (i1 i2 : Value) (n m : Nat) (w : World) (h1 : Rd w 1 i1 n (a.ids.map vn)) (h2 : Rd w 1 i2 m (b.ids.map vn)) :
    Calls Try.prog 30 #[vo a i1, vo b i2] w fun e w' => e = .returned (.bool (sameOD a b)) ∧ Below w.heap.size w w' := by
  obtain ⟨r, hr⟩ : ∃ r, r = sameOD a b := ⟨_, rfl⟩
  rw [← hr]
  obtain ⟨k1, id1, ad1, po1, to1, no1, se1, su1, le1, ac1, fl1, ke1, ma1, ids1⟩ := a
  obtain ⟨k2, id2, ad2, po2, to2, no2, se2, su2, le2, ac2, fl2, ke2, ma2, ids2⟩ := b
  unfold vo
  dsimp only at *
  have HR := Lib.hid hr
  have H1 := Lib.hid h1
  have H2 := Lib.hid h2
  clear hr h1 h2
  have hB := Lib.hid (((Below.refl w.heap.size w).alloc (Nat.le_refl _) (.cells #[.int .i64 k1, .int .i64 id1, .int .i64 ad1, .int .i64 po1, .int .i64 to1, .int .i64 no1, .int .i64 se1, .int .i64 su1, .int .i64 le1, .int .i64 ac1, .bool fl1, .string ke1, .string ma1, i1] 27)).alloc (by simp) (.cells #[.int .i64 k2, .int .i64 id2, .int .i64 ad2, .int .i64 po2, .int .i64 to2, .int .i64 no2, .int .i64 se2, .int .i64 su2, .int .i64 le2, .int .i64 ac2, .bool fl2, .string ke2, .string ma2, i2] 27))
  have KC : Hid (∀ W, Below w.heap.size w W → Calls Try.prog 64 #[i1, i2] W fun e w' => e = .returned (.bool (eqLI ids1 ids2)) ∧ Below w.heap.size w w') := Lib.hid (fun W hW => (sameInts_l i1 i2 n m ids1 ids2 W (H1.out.below hW) (H2.out.below hW)).mono fun e w' ⟨h1, h2⟩ => ⟨h1, hW.trans (h2.mono hW.size)⟩)
  obtain ⟨rr, hrr⟩ : ∃ x, x = eqLI ids1 ids2 := ⟨_, rfl⟩
  rw [← hrr] at KC
  have HRR := Lib.hid hrr
  clear hrr
  obtain ⟨W, hW⟩ : ∃ W, W = (w.alloc (.cells #[.int .i64 k1, .int .i64 id1, .int .i64 ad1, .int .i64 po1, .int .i64 to1, .int .i64 no1, .int .i64 se1, .int .i64 su1, .int .i64 le1, .int .i64 ac1, .bool fl1, .string ke1, .string ma1, i1] 27)).alloc (.cells #[.int .i64 k2, .int .i64 id2, .int .i64 ad2, .int .i64 po2, .int .i64 to2, .int .i64 no2, .int .i64 se2, .int .i64 su2, .int .i64 le2, .int .i64 ac2, .bool fl2, .string ke2, .string ma2, i2] 27) := ⟨_, rfl⟩
  rw [← hW] at hB
  have x0 : W.cell? ⟨w.heap.size, 0, none⟩ = some (.int .i64 k1) := by rw [hW]; go_simp
  have y0 : W.cell? ⟨w.heap.size + 1, 0, none⟩ = some (.int .i64 k2) := by rw [hW]; go_simp
  have x1 : W.cell? ⟨w.heap.size, 1, none⟩ = some (.int .i64 id1) := by rw [hW]; go_simp
  have y1 : W.cell? ⟨w.heap.size + 1, 1, none⟩ = some (.int .i64 id2) := by rw [hW]; go_simp
  have x2 : W.cell? ⟨w.heap.size, 2, none⟩ = some (.int .i64 ad1) := by rw [hW]; go_simp
  have y2 : W.cell? ⟨w.heap.size + 1, 2, none⟩ = some (.int .i64 ad2) := by rw [hW]; go_simp
  have x3 : W.cell? ⟨w.heap.size, 3, none⟩ = some (.int .i64 po1) := by rw [hW]; go_simp
  have y3 : W.cell? ⟨w.heap.size + 1, 3, none⟩ = some (.int .i64 po2) := by rw [hW]; go_simp
  have x4 : W.cell? ⟨w.heap.size, 4, none⟩ = some (.int .i64 to1) := by rw [hW]; go_simp
  have y4 : W.cell? ⟨w.heap.size + 1, 4, none⟩ = some (.int .i64 to2) := by rw [hW]; go_simp
  have x5 : W.cell? ⟨w.heap.size, 5, none⟩ = some (.int .i64 no1) := by rw [hW]; go_simp
  have y5 : W.cell? ⟨w.heap.size + 1, 5, none⟩ = some (.int .i64 no2) := by rw [hW]; go_simp
  have x6 : W.cell? ⟨w.heap.size, 6, none⟩ = some (.int .i64 se1) := by rw [hW]; go_simp
  have y6 : W.cell? ⟨w.heap.size + 1, 6, none⟩ = some (.int .i64 se2) := by rw [hW]; go_simp
  have x7 : W.cell? ⟨w.heap.size, 7, none⟩ = some (.int .i64 su1) := by rw [hW]; go_simp
  have y7 : W.cell? ⟨w.heap.size + 1, 7, none⟩ = some (.int .i64 su2) := by rw [hW]; go_simp
  have x8 : W.cell? ⟨w.heap.size, 8, none⟩ = some (.int .i64 le1) := by rw [hW]; go_simp
  have y8 : W.cell? ⟨w.heap.size + 1, 8, none⟩ = some (.int .i64 le2) := by rw [hW]; go_simp
  have x9 : W.cell? ⟨w.heap.size, 9, none⟩ = some (.int .i64 ac1) := by rw [hW]; go_simp
  have y9 : W.cell? ⟨w.heap.size + 1, 9, none⟩ = some (.int .i64 ac2) := by rw [hW]; go_simp
  have x10 : W.cell? ⟨w.heap.size, 10, none⟩ = some (.bool fl1) := by rw [hW]; go_simp
  have y10 : W.cell? ⟨w.heap.size + 1, 10, none⟩ = some (.bool fl2) := by rw [hW]; go_simp
  have x11 : W.cell? ⟨w.heap.size, 11, none⟩ = some (.string ke1) := by rw [hW]; go_simp
  have y11 : W.cell? ⟨w.heap.size + 1, 11, none⟩ = some (.string ke2) := by rw [hW]; go_simp
  have x12 : W.cell? ⟨w.heap.size, 12, none⟩ = some (.string ma1) := by rw [hW]; go_simp
  have y12 : W.cell? ⟨w.heap.size + 1, 12, none⟩ = some (.string ma2) := by rw [hW]; go_simp
  have x13 : W.cell? ⟨w.heap.size, 13, none⟩ = some i1 := by rw [hW]; go_simp
  have y13 : W.cell? ⟨w.heap.size + 1, 13, none⟩ = some i2 := by rw [hW]; go_simp
  have HW := Lib.hid hW
  clear hW
  go_enter Try.func30, Try.ntmps30
  go_upto_region 1 with (fail)
  rw [← HW.out]
  refine wp_region_lit ?_
  refine forget2 (n := 101) (s1 := 2) (s2 := 3) (p1 := .pointer (some ⟨w.heap.size, 0, none⟩)) (p2 := .pointer (some ⟨w.heap.size + 1, 0, none⟩)) rfl rfl rfl rfl (fun a hd hn h2 h3 => ?_)
  refine grp_first (d := 5) (s1 := 2) (s2 := 3) (q1 := .pointer (some ⟨w.heap.size, 0, none⟩)) (q2 := .pointer (some ⟨w.heap.size + 1, 0, none⟩)) (x := .int .i64 k1) (y := .int .i64 k2) (e := (k1 == k2)) rfl rfl rfl (by omega) (by omega) (by omega) h2 h3 (by go_simp) (by go_simp) (by go_simp) (by go_simp) (by go_simp) (fun a0 hd0 hn0 hf0 hb0 => ?_)
  have n0 := hn0.trans hn
  have u0 := (hf0 2 (by omega)).trans h2
  have v0 := (hf0 3 (by omega)).trans h3
  have e0 := hd0.trans hd
  clear hn0 hf0 hd0 h2 h3 hd hn
  refine grp_and (d := 11) (m := 10) (g := 5) (s1 := 2) (s2 := 3) (q1 := .pointer (some ⟨w.heap.size, 1, none⟩)) (q2 := .pointer (some ⟨w.heap.size + 1, 1, none⟩)) (x := .int .i64 id1) (y := .int .i64 id2) (e := (id1 == id2)) rfl rfl rfl (by kernel_rfl) (by omega) (by omega) (by omega) (by omega) u0 v0 hb0 (by go_simp) (by go_simp) (by go_simp) (by go_simp) (by go_simp) (fun a1 hd1 hn1 hf1 hb1 => ?_)
  have n1 := hn1.trans n0
  have u1 := (hf1 2 (by omega)).trans u0
  have v1 := (hf1 3 (by omega)).trans v0
  have e1 := hd1.trans e0
  clear hn1 hf1 hd1 u0 v0 e0 n0 hb0 x0 y0
  refine grp_and (d := 18) (m := 17) (g := 12) (s1 := 2) (s2 := 3) (q1 := .pointer (some ⟨w.heap.size, 2, none⟩)) (q2 := .pointer (some ⟨w.heap.size + 1, 2, none⟩)) (x := .int .i64 ad1) (y := .int .i64 ad2) (e := (ad1 == ad2)) rfl rfl rfl (by kernel_rfl) (by omega) (by omega) (by omega) (by omega) u1 v1 hb1 (by go_simp) (by go_simp) (by go_simp) (by go_simp) (by go_simp) (fun a2 hd2 hn2 hf2 hb2 => ?_)
  have n2 := hn2.trans n1
  have u2 := (hf2 2 (by omega)).trans u1
  have v2 := (hf2 3 (by omega)).trans v1
  have e2 := hd2.trans e1
  clear hn2 hf2 hd2 u1 v1 e1 n1 hb1 x1 y1
  refine grp_and (d := 25) (m := 24) (g := 19) (s1 := 2) (s2 := 3) (q1 := .pointer (some ⟨w.heap.size, 3, none⟩)) (q2 := .pointer (some ⟨w.heap.size + 1, 3, none⟩)) (x := .int .i64 po1) (y := .int .i64 po2) (e := (po1 == po2)) rfl rfl rfl (by kernel_rfl) (by omega) (by omega) (by omega) (by omega) u2 v2 hb2 (by go_simp) (by go_simp) (by go_simp) (by go_simp) (by go_simp) (fun a3 hd3 hn3 hf3 hb3 => ?_)
  have n3 := hn3.trans n2
  have u3 := (hf3 2 (by omega)).trans u2
  have v3 := (hf3 3 (by omega)).trans v2
  have e3 := hd3.trans e2
  clear hn3 hf3 hd3 u2 v2 e2 n2 hb2 x2 y2
  refine grp_and (d := 32) (m := 31) (g := 26) (s1 := 2) (s2 := 3) (q1 := .pointer (some ⟨w.heap.size, 4, none⟩)) (q2 := .pointer (some ⟨w.heap.size + 1, 4, none⟩)) (x := .int .i64 to1) (y := .int .i64 to2) (e := (to1 == to2)) rfl rfl rfl (by kernel_rfl) (by omega) (by omega) (by omega) (by omega) u3 v3 hb3 (by go_simp) (by go_simp) (by go_simp) (by go_simp) (by go_simp) (fun a4 hd4 hn4 hf4 hb4 => ?_)
  have n4 := hn4.trans n3
  have u4 := (hf4 2 (by omega)).trans u3
  have v4 := (hf4 3 (by omega)).trans v3
  have e4 := hd4.trans e3
  clear hn4 hf4 hd4 u3 v3 e3 n3 hb3 x3 y3
  refine grp_and (d := 39) (m := 38) (g := 33) (s1 := 2) (s2 := 3) (q1 := .pointer (some ⟨w.heap.size, 5, none⟩)) (q2 := .pointer (some ⟨w.heap.size + 1, 5, none⟩)) (x := .int .i64 no1) (y := .int .i64 no2) (e := (no1 == no2)) rfl rfl rfl (by kernel_rfl) (by omega) (by omega) (by omega) (by omega) u4 v4 hb4 (by go_simp) (by go_simp) (by go_simp) (by go_simp) (by go_simp) (fun a5 hd5 hn5 hf5 hb5 => ?_)
  have n5 := hn5.trans n4
  have u5 := (hf5 2 (by omega)).trans u4
  have v5 := (hf5 3 (by omega)).trans v4
  have e5 := hd5.trans e4
  clear hn5 hf5 hd5 u4 v4 e4 n4 hb4 x4 y4
  refine grp_and (d := 46) (m := 45) (g := 40) (s1 := 2) (s2 := 3) (q1 := .pointer (some ⟨w.heap.size, 6, none⟩)) (q2 := .pointer (some ⟨w.heap.size + 1, 6, none⟩)) (x := .int .i64 se1) (y := .int .i64 se2) (e := (se1 == se2)) rfl rfl rfl (by kernel_rfl) (by omega) (by omega) (by omega) (by omega) u5 v5 hb5 (by go_simp) (by go_simp) (by go_simp) (by go_simp) (by go_simp) (fun a6 hd6 hn6 hf6 hb6 => ?_)
  have n6 := hn6.trans n5
  have u6 := (hf6 2 (by omega)).trans u5
  have v6 := (hf6 3 (by omega)).trans v5
  have e6 := hd6.trans e5
  clear hn6 hf6 hd6 u5 v5 e5 n5 hb5 x5 y5
  refine grp_and (d := 53) (m := 52) (g := 47) (s1 := 2) (s2 := 3) (q1 := .pointer (some ⟨w.heap.size, 7, none⟩)) (q2 := .pointer (some ⟨w.heap.size + 1, 7, none⟩)) (x := .int .i64 su1) (y := .int .i64 su2) (e := (su1 == su2)) rfl rfl rfl (by kernel_rfl) (by omega) (by omega) (by omega) (by omega) u6 v6 hb6 (by go_simp) (by go_simp) (by go_simp) (by go_simp) (by go_simp) (fun a7 hd7 hn7 hf7 hb7 => ?_)
  have n7 := hn7.trans n6
  have u7 := (hf7 2 (by omega)).trans u6
  have v7 := (hf7 3 (by omega)).trans v6
  have e7 := hd7.trans e6
  clear hn7 hf7 hd7 u6 v6 e6 n6 hb6 x6 y6
  refine grp_and (d := 60) (m := 59) (g := 54) (s1 := 2) (s2 := 3) (q1 := .pointer (some ⟨w.heap.size, 8, none⟩)) (q2 := .pointer (some ⟨w.heap.size + 1, 8, none⟩)) (x := .int .i64 le1) (y := .int .i64 le2) (e := (le1 == le2)) rfl rfl rfl (by kernel_rfl) (by omega) (by omega) (by omega) (by omega) u7 v7 hb7 (by go_simp) (by go_simp) (by go_simp) (by go_simp) (by go_simp) (fun a8 hd8 hn8 hf8 hb8 => ?_)
  have n8 := hn8.trans n7
  have u8 := (hf8 2 (by omega)).trans u7
  have v8 := (hf8 3 (by omega)).trans v7
  have e8 := hd8.trans e7
  clear hn8 hf8 hd8 u7 v7 e7 n7 hb7 x7 y7
  refine grp_and (d := 67) (m := 66) (g := 61) (s1 := 2) (s2 := 3) (q1 := .pointer (some ⟨w.heap.size, 9, none⟩)) (q2 := .pointer (some ⟨w.heap.size + 1, 9, none⟩)) (x := .int .i64 ac1) (y := .int .i64 ac2) (e := (ac1 == ac2)) rfl rfl rfl (by kernel_rfl) (by omega) (by omega) (by omega) (by omega) u8 v8 hb8 (by go_simp) (by go_simp) (by go_simp) (by go_simp) (by go_simp) (fun a9 hd9 hn9 hf9 hb9 => ?_)
  have n9 := hn9.trans n8
  have u9 := (hf9 2 (by omega)).trans u8
  have v9 := (hf9 3 (by omega)).trans v8
  have e9 := hd9.trans e8
  clear hn9 hf9 hd9 u8 v8 e8 n8 hb8 x8 y8
  refine grp_and (d := 74) (m := 73) (g := 68) (s1 := 2) (s2 := 3) (q1 := .pointer (some ⟨w.heap.size, 10, none⟩)) (q2 := .pointer (some ⟨w.heap.size + 1, 10, none⟩)) (x := .bool fl1) (y := .bool fl2) (e := (fl1 == fl2)) rfl rfl rfl (by kernel_rfl) (by omega) (by omega) (by omega) (by omega) u9 v9 hb9 (by go_simp) (by go_simp) (by go_simp) (by go_simp) (by go_simp) (fun a10 hd10 hn10 hf10 hb10 => ?_)
  have n10 := hn10.trans n9
  have u10 := (hf10 2 (by omega)).trans u9
  have v10 := (hf10 3 (by omega)).trans v9
  have e10 := hd10.trans e9
  clear hn10 hf10 hd10 u9 v9 e9 n9 hb9 x9 y9
  refine grp_and (d := 81) (m := 80) (g := 75) (s1 := 2) (s2 := 3) (q1 := .pointer (some ⟨w.heap.size, 11, none⟩)) (q2 := .pointer (some ⟨w.heap.size + 1, 11, none⟩)) (x := .string ke1) (y := .string ke2) (e := (ke1.toList == ke2.toList)) rfl rfl rfl (by kernel_rfl) (by omega) (by omega) (by omega) (by omega) u10 v10 hb10 (by go_simp) (by go_simp) (by go_simp) (by go_simp) (by go_simp) (fun a11 hd11 hn11 hf11 hb11 => ?_)
  have n11 := hn11.trans n10
  have u11 := (hf11 2 (by omega)).trans u10
  have v11 := (hf11 3 (by omega)).trans v10
  have e11 := hd11.trans e10
  clear hn11 hf11 hd11 u10 v10 e10 n10 hb10 x10 y10
  refine grp_and (d := 88) (m := 87) (g := 82) (s1 := 2) (s2 := 3) (q1 := .pointer (some ⟨w.heap.size, 12, none⟩)) (q2 := .pointer (some ⟨w.heap.size + 1, 12, none⟩)) (x := .string ma1) (y := .string ma2) (e := (ma1.toList == ma2.toList)) rfl rfl rfl (by kernel_rfl) (by omega) (by omega) (by omega) (by omega) u11 v11 hb11 (by go_simp) (by go_simp) (by go_simp) (by go_simp) (by go_simp) (fun a12 hd12 hn12 hf12 hb12 => ?_)
  have n12 := hn12.trans n11
  have u12 := (hf12 2 (by omega)).trans u11
  have v12 := (hf12 3 (by omega)).trans v11
  have e12 := hd12.trans e11
  clear hn12 hf12 hd12 u11 v11 e11 n11 hb11 x11 y11
  refine grp_call (d := 95) (m := 94) (g := 89) (s1 := 2) (s2 := 3) (z := 4) (q1 := .pointer (some ⟨w.heap.size, 13, none⟩)) (q2 := .pointer (some ⟨w.heap.size + 1, 13, none⟩)) (x := i1) (y := i2) (r := rr) (S := fun w' => Below w.heap.size w w') rfl rfl rfl (by kernel_rfl) (by omega) (by omega) (by omega) (by omega) (by omega) u12 v12 hb12 (by go_simp) (by go_simp) (by go_simp) (by go_simp) rfl rfl (fun a' hx hy => by go_simp) (KC.out W hB.out) (fun e w' h => h) hB.out (fun a13 w' hd13 hn13 hf13 hb13 hS => ?_)
  rename_i K hK
  have HB : Hid (((((((((((((((k1 == k2) && (id1 == id2)) && (ad1 == ad2)) && (po1 == po2)) && (to1 == to2)) && (no1 == no2)) && (se1 == se2)) && (su1 == su2)) && (le1 == le2)) && (ac1 == ac2)) && (fl1 == fl2)) && (ke1.toList == ke2.toList)) && (ma1.toList == ma2.toList)) && rr) = r) := Lib.hid (by
    rw [HR.out, HRR.out]
    unfold sameOD eqLI sameB
    simp only [ByteArray.toList_eq])
  refine hK _ _ (wp_ret ?_)
  refine bodyPost_ret (v := .bool r) (by rw [results_tmp (t := 4) rfl, getD_of hb13, HB.out]) (hd13.trans e12) ⟨rfl, hS⟩
theorem sameOD_self (o : OD) : sameOD o o = true := (sameOD_iff o o).2 rfl
set_option maxRecDepth 100000 in
set_option maxHeartbeats 1600000 in
theorem sameOpts_l (v1 v2 : Value) (n : Nat) (os : List OD) (ivs jvs : List Value) (w : World) (h1 : RdO w v1 n os ivs) (h2 : RdO w v2 n os jvs) :
    Calls Try.prog 65 #[v1, v2] w fun e w' => e = .returned (.bool true) ∧ Below w.heap.size w w' := by
  obtain ⟨A1, c1, rfl, hm1⟩ := h1.shape
  obtain ⟨A2, c2, rfl, hm2⟩ := h2.shape
  unfold maxLen at hm1 hm2
  have H1 := Lib.hid h1
  have H2 := Lib.hid h2
  clear h1 h2
  go_enter Try.func65, Try.ntmps65
  go_wp2
  go_loopw [5] (fun i wr => ∃ k : Nat, k ≤ n ∧ i = .int .i64 (k : Int) ∧ Hid (Below w.heap.size w wr)) (fun i _ => n - (intOf i).toNat)
  case atStart => exact ⟨0, Nat.zero_le _, rfl, Lib.hid (Below.refl _ _)⟩
  case round =>
    obtain ⟨k, hk, rfl, HN⟩ := hrel
    by_cases hlt : k < n
    case neg =>
      go_wp2
      go_ret
      exact ⟨rfl, HN.out⟩
    obtain ⟨b1, o1, c1', e0⟩ := H1.out.full (by omega)
    obtain ⟨b2, o2, c2', e1⟩ := H2.out.full (by omega)
    simp only [Value.slice.injEq] at e0 e1
    obtain ⟨rfl, _, rfl⟩ := e0
    obtain ⟨rfl, _, rfl⟩ := e1
    obtain ⟨o, iv, ho, hiv, hB, hR⟩ := (H1.out.below HN.out).at_ hlt
    obtain ⟨o', jv, ho', hjv, hB', hR'⟩ := (H2.out.below HN.out).at_ hlt
    obtain rfl : o = o' := by rw [ho] at ho'; injection ho'
    obtain ⟨B1, d1, rfl⟩ := RdO.shape1 hR
    obtain ⟨B2, d2, rfl⟩ := RdO.shape1 hR'
    have XB := Lib.hid hB
    have YB := Lib.hid hB'
    have XR := Lib.hid hR
    have YR := Lib.hid hR'
    clear hB hB' hR hR' ho ho' hiv hjv
    go_upto_region 6 with (fail)
    refine wp_region_held_drew (S := fun w' => Bo w' b1 (o1 + k * 14) (voC o (.slice B1 o.ids.length d1)) ∧ Bo w' b2 (o2 + k * 14) (voC o (.slice B2 o.ids.length d2)) ∧ Below wr.heap.size wr w') (by kernel_rfl) ⟨XB.out.drew, YB.out.drew, (Below.refl _ wr).drew⟩ (fun hHeld => ?_)
    refine wpAnyH_take (i := 0) (oi := ⟨some 17, _, _, _, _, _⟩) (v := ?_) rfl (by kernel_rfl) (by kernel_rfl) (by kernel_rfl) (fun _ _ _ h => h) (Or.inl ⟨by kernel_rfl, ?_⟩) (by assumption) ?_
    rotate_left
    · (intro w hSw; (try dsimp only at hSw); go_simp; try (with_reducible rfl))
    try simp only [Act.put, List.setIfInBounds_toArray, List.set_cons_zero, List.set_cons_succ]
    refine wpAnyH_take (i := 1) (oi := ⟨some 18, _, _, _, _, _⟩) (v := ?_) rfl (by kernel_rfl) (by kernel_rfl) (by kernel_rfl) (fun _ _ _ h => h) (Or.inl ⟨by kernel_rfl, ?_⟩) (by assumption) ?_
    rotate_left
    · (intro w hSw; (try dsimp only at hSw); go_simp; try (with_reducible rfl))
    try simp only [Act.put, List.setIfInBounds_toArray, List.set_cons_zero, List.set_cons_succ]
    refine wpAnyH_take (i := 2) (oi := ⟨some 19, _, _, _, _, _⟩) (v := ?_) rfl (by kernel_rfl) (by kernel_rfl) (by kernel_rfl) (fun _ _ _ h => h) (Or.inl ⟨by kernel_rfl, ?_⟩) (by assumption) ?_
    rotate_left
    · (intro w hSw; (try dsimp only at hSw); go_simp; try (with_reducible rfl))
    try simp only [Act.put, List.setIfInBounds_toArray, List.set_cons_zero, List.set_cons_succ]
    refine wpAnyH_take (i := 3) (oi := ⟨some 20, _, _, _, _, _⟩) rfl (by kernel_rfl) (by kernel_rfl) (by kernel_rfl) (fun _ _ _ h => h) (yields_optA (by kernel_rfl) rfl (by rfl) (fun w h => h.1)) (by assumption) ?_
    try simp only [Act.put, List.setIfInBounds_toArray, List.set_cons_zero, List.set_cons_succ]
    refine wpAnyH_take (i := 4) (oi := ⟨some 21, _, _, _, _, _⟩) (v := ?_) rfl (by kernel_rfl) (by kernel_rfl) (by kernel_rfl) (fun _ _ _ h => h) (Or.inl ⟨by kernel_rfl, ?_⟩) (by assumption) ?_
    rotate_left
    · (intro w hSw; (try dsimp only at hSw); go_simp; try (with_reducible rfl))
    try simp only [Act.put, List.setIfInBounds_toArray, List.set_cons_zero, List.set_cons_succ]
    refine wpAnyH_take (i := 5) (oi := ⟨some 22, _, _, _, _, _⟩) (v := ?_) rfl (by kernel_rfl) (by kernel_rfl) (by kernel_rfl) (fun _ _ _ h => h) (Or.inl ⟨by kernel_rfl, ?_⟩) (by assumption) ?_
    rotate_left
    · (intro w hSw; (try dsimp only at hSw); go_simp; try (with_reducible rfl))
    try simp only [Act.put, List.setIfInBounds_toArray, List.set_cons_zero, List.set_cons_succ]
    refine wpAnyH_take (i := 6) (oi := ⟨some 23, _, _, _, _, _⟩) (v := ?_) rfl (by kernel_rfl) (by kernel_rfl) (by kernel_rfl) (fun _ _ _ h => h) (Or.inl ⟨by kernel_rfl, ?_⟩) (by assumption) ?_
    rotate_left
    · (intro w hSw; (try dsimp only at hSw); go_simp; try (with_reducible rfl))
    try simp only [Act.put, List.setIfInBounds_toArray, List.set_cons_zero, List.set_cons_succ]
    refine wpAnyH_take (i := 7) (oi := ⟨some 24, _, _, _, _, _⟩) rfl (by kernel_rfl) (by kernel_rfl) (by kernel_rfl) (fun _ _ _ h => h) (yields_optA (by kernel_rfl) rfl (by rfl) (fun w h => h.2.1)) (by assumption) ?_
    try simp only [Act.put, List.setIfInBounds_toArray, List.set_cons_zero, List.set_cons_succ]
    refine wpAnyH_ready (rs := [8]) (by kernel_rfl) (by simp) ?_
    refine AllReadyH.cons (o := ⟨some 25, _, _, _, _, _⟩) rfl (fun K hK => ?_) AllReadyH.nil
    go_simp
    (go_at_call 30; refine (sameOpt_l o o _ _ _ _ _ (XR.out.below (Below.refl _ _).drew) (YR.out.below (Below.refl _ _).drew)).mono ?_; rw [sameOD_self o]; rintro e w5 ⟨rfl, hb5⟩)
    try go_wp2_with fail
    refine hK.out _ _ ?_ (fun hHeld => ?_)
    · exact ⟨XB.out.drew.below hb5, YB.out.drew.below hb5, (Below.refl wr.heap.size wr).drew.trans hb5⟩
    clear hK K
    try simp only [Act.put, List.setIfInBounds_toArray, List.set_cons_zero, List.set_cons_succ]
    have HN5 := Lib.hid (HN.out.trans (((Below.refl wr.heap.size wr).drew.trans hb5).mono HN.out.size))
    clear hb5
    refine wpAnyH_take (i := 9) (oi := ⟨some 26, _, _, _, _, _⟩) (v := ?_) rfl (by kernel_rfl) (by kernel_rfl) (by kernel_rfl) (fun _ _ _ h => h) (Or.inl ⟨by kernel_rfl, ?_⟩) (by assumption) ?_
    rotate_left
    · (intro w hSw; (try dsimp only at hSw); go_simp; try (with_reducible rfl))
    try simp only [Act.put, List.setIfInBounds_toArray, List.set_cons_zero, List.set_cons_succ]
    refine wpAnyH_done (by kernel_rfl) ?_ _
    repeat clear hHeld
    go_wp2
    go_roundw
    case rel => exact ⟨k + 1, by omega, by go_num, HN5⟩
    case measure => (simp [intOf]; try omega)
set_option maxRecDepth 100000 in
set_option maxHeartbeats 6400000 in
theorem sameSeg_l (x : SD) (A B : Option Addr) (n c1 c2 : Nat) (ivs jvs : List Value) (w : World) (h1 : RdO w (.slice A n c1) n x.ops ivs) (h2 : RdO w (.slice B n c2) n x.ops jvs) :
    Calls Try.prog 31 #[vx x (.slice A n c1), vx x (.slice B n c2)] w fun e w' => e = .returned (.bool true) ∧ Below w.heap.size w w' := by
  obtain ⟨fr, tt, po, pe, sq, ak, fg, os, da⟩ := x
  dsimp only at *
  have H1 := Lib.hid h1
  have H2 := Lib.hid h2
  clear h1 h2
  go_enter Try.func31, Try.ntmps31
  go_upto_region 1 with (fail)
  obtain ⟨W, hW⟩ : ∃ W, W = (w.alloc (.cells (vxC ⟨fr, tt, po, pe, sq, ak, fg, os, da⟩ (.slice A n c1)).toArray 37)).alloc (.cells (vxC ⟨fr, tt, po, pe, sq, ak, fg, os, da⟩ (.slice B n c2)).toArray 37) := ⟨_, rfl⟩
  change Code.wp _ _ _ _ ((w.alloc (.cells (vxC ⟨fr, tt, po, pe, sq, ak, fg, os, da⟩ (.slice A n c1)).toArray 37)).alloc (.cells (vxC ⟨fr, tt, po, pe, sq, ak, fg, os, da⟩ (.slice B n c2)).toArray 37))
  rw [← hW]
  have L0 := Lib.hid (((Below.refl w.heap.size w).alloc (Nat.le_refl _) (.cells (vxC ⟨fr, tt, po, pe, sq, ak, fg, os, da⟩ (.slice A n c1)).toArray 37)).alloc (by simp) (.cells (vxC ⟨fr, tt, po, pe, sq, ak, fg, os, da⟩ (.slice B n c2)).toArray 37))
  have X0 := Lib.hid ((Bx.new w (vxC ⟨fr, tt, po, pe, sq, ak, fg, os, da⟩ (.slice A n c1)).toArray 37).alloc (.cells (vxC ⟨fr, tt, po, pe, sq, ak, fg, os, da⟩ (.slice B n c2)).toArray 37))
  have Y0 := Lib.hid (Bx.new (w.alloc (.cells (vxC ⟨fr, tt, po, pe, sq, ak, fg, os, da⟩ (.slice A n c1)).toArray 37)) (vxC ⟨fr, tt, po, pe, sq, ak, fg, os, da⟩ (.slice B n c2)).toArray 37)
  rw [← hW] at L0 X0 Y0
  simp only [World.size_alloc] at Y0
  clear hW
  have x0 : W.cell? ⟨w.heap.size, 0, none⟩ = some (.int .i64 fr) := X0.out.2 0 _ rfl
  have y0 : W.cell? ⟨w.heap.size + 1, 0, none⟩ = some (.int .i64 fr) := Y0.out.2 0 _ rfl
  have x1 : W.cell? ⟨w.heap.size, 1, none⟩ = some (.int .i64 tt) := X0.out.2 1 _ rfl
  have y1 : W.cell? ⟨w.heap.size + 1, 1, none⟩ = some (.int .i64 tt) := Y0.out.2 1 _ rfl
  have x2 : W.cell? ⟨w.heap.size, 2, none⟩ = some (.int .i64 po) := X0.out.2 2 _ rfl
  have y2 : W.cell? ⟨w.heap.size + 1, 2, none⟩ = some (.int .i64 po) := Y0.out.2 2 _ rfl
  have x3 : W.cell? ⟨w.heap.size, 3, none⟩ = some (.int .i64 pe) := X0.out.2 3 _ rfl
  have y3 : W.cell? ⟨w.heap.size + 1, 3, none⟩ = some (.int .i64 pe) := Y0.out.2 3 _ rfl
  have x4 : W.cell? ⟨w.heap.size, 4, none⟩ = some (.int .i64 sq) := X0.out.2 4 _ rfl
  have y4 : W.cell? ⟨w.heap.size + 1, 4, none⟩ = some (.int .i64 sq) := Y0.out.2 4 _ rfl
  have x5 : W.cell? ⟨w.heap.size, 5, none⟩ = some (.int .i64 ak) := X0.out.2 5 _ rfl
  have y5 : W.cell? ⟨w.heap.size + 1, 5, none⟩ = some (.int .i64 ak) := Y0.out.2 5 _ rfl
  have x6 : W.cell? ⟨w.heap.size, 6, none⟩ = some (.int .i64 fg) := X0.out.2 6 _ rfl
  have y6 : W.cell? ⟨w.heap.size + 1, 6, none⟩ = some (.int .i64 fg) := Y0.out.2 6 _ rfl
  have x7 : W.cell? ⟨w.heap.size, 7, none⟩ = some (.slice A n c1) := X0.out.2 7 _ rfl
  have y7 : W.cell? ⟨w.heap.size + 1, 7, none⟩ = some (.slice B n c2) := Y0.out.2 7 _ rfl
  have x8 : W.cell? ⟨w.heap.size, 8, none⟩ = some (.string da) := X0.out.2 8 _ rfl
  have y8 : W.cell? ⟨w.heap.size + 1, 8, none⟩ = some (.string da) := Y0.out.2 8 _ rfl
  go_wp2_with fail
  refine (sameOpts_l _ _ n os ivs jvs _ (H1.out.below L0.out) (H2.out.below L0.out)).mono ?_
  rintro e w3 ⟨rfl, hb⟩
  have z8 : w3.cell? ⟨w.heap.size, 8, none⟩ = some (.string da) := (X0.out.below hb).2 8 _ rfl
  have v8 : w3.cell? ⟨w.heap.size + 1, 8, none⟩ = some (.string da) := (Y0.out.below hb).2 8 _ rfl
  have L3 := Lib.hid (L0.out.trans (hb.mono L0.out.size))
  clear hb x0 x1 x2 x3 x4 x5 x6 x7 x8 y0 y1 y2 y3 y4 y5 y6 y7 y8
  go_wp2
  go_ret
  exact ⟨rfl, L3.out⟩
end Go.Proofs.Ytkgbkgonlopciaa

/- The walks of SameOpt. -/
import Derived.Test.YtkgbkgonlopciaaProg
import Derived.Test.YtkgbkgonlopciaaK
import Derived.Test.YtkgbkgonlopciaaK2
import Derived.Test.YtkgbkgonlopciaaK4
import Derived.Test.YtkgbkgonlopciaaP1
import Derived.Test.YtkgbkgonlopciaaM1
import Derived.Test.YtkgbkgonlopciaaM6
import Derived.Test.YtkgbkgonlopciaaK5
import Derived.Deep.QuietTactic
import Derived.BigQuiet
import Derived.Deep.Cut
namespace Go.Proofs.Ytkgbkgonlopciaa
open Go.RowKit
set_option linter.unusedVariables false
set_option linter.unusedSimpArgs false
theorem sameOD_no {a b : OD} (h : a ≠ b) : sameOD a b = false := by
  cases e : sameOD a b
  · rfl
  · exact absurd ((sameOD_iff _ _).1 e) h
theorem Rd.at1 {w : World} {n b o cap : Nat} {xs : List Int} (h : Rd w 1 (.slice (some ⟨b, o, none⟩) n cap) n (xs.map vn)) {k : Nat} (hk : k < n) :
    b < w.heap.size ∧ w.cell? ⟨b, o + k, none⟩ = some (.int .i64 (xs.getD k 0)) := by
  have hl : xs.length = n := by have := h.len; simpa using this
  obtain ⟨_, _, _, e, hb, _, hc⟩ := h.full (by omega)
  simp only [Value.slice.injEq, Option.some.injEq, Addr.mk.injEq] at e
  obtain ⟨⟨rfl, rfl, _⟩, _, _⟩ := e
  refine ⟨hb, hc k _ ?_⟩
  rw [List.getElem?_map, List.getD_eq_getElem?_getD, List.getElem?_eq_getElem (by omega)]
  rfl
/-- two lists of numbers are the same -/
def eqLI (xs ys : List Int) : Bool := xs == ys
theorem eqLI_yes {xs ys : List Int} (h : xs = ys) : eqLI xs ys = true := by unfold eqLI; simp [h]
theorem eqLI_no {xs ys : List Int} (h : xs ≠ ys) : eqLI xs ys = false := by unfold eqLI; simp [h]
theorem eqLI_at {xs ys : List Int} {k : Nat} (h : xs.getD k 0 ≠ ys.getD k 0) : eqLI xs ys = false := eqLI_no (fun e => h (by rw [e]))
theorem eqLI_all {xs ys : List Int} (hl : xs.length = ys.length) (h : ∀ k, k < xs.length → xs.getD k 0 = ys.getD k 0) : eqLI xs ys = true := by
  refine eqLI_yes (List.ext_getElem hl fun i h1 h2 => ?_)
  have := h i h1
  rwa [List.getD_eq_getElem?_getD, List.getD_eq_getElem?_getD, List.getElem?_eq_getElem h1, List.getElem?_eq_getElem h2] at this
set_option maxRecDepth 100000 in
theorem sameInts_i (v1 v2 : Value) (n m : Nat) (xs ys : List Int) (w : World) (h1 : Rd w 1 v1 n (xs.map vn)) (h2 : Rd w 1 v2 m (ys.map vn)) :
    Calls Try.prog 54 #[v1, v2] w fun e w' => e = .returned (.bool (eqLI xs ys)) ∧ Below w.heap.size w w' := by
  obtain ⟨A1, c1, rfl, hm1⟩ := h1.shape
  obtain ⟨A2, c2, rfl, hm2⟩ := h2.shape
  unfold maxLen at hm1 hm2
  have hn := rd_ids h1
  have hm := rd_ids h2
  have H1 := Lib.hid h1
  have H2 := Lib.hid h2
  clear h1 h2
  by_cases hnm : n = m
  case neg =>
    have HB : Hid (eqLI xs ys = false) := Lib.hid (eqLI_no (fun e => hnm (by rw [hn, hm, e])))
    have q1 : ((n : Int) == (m : Int)) = false := by simp; omega
    have q2 : ((n : Int) != (m : Int)) = true := by simp; omega
    clear hn hm
    go_enter Try.func54, Try.ntmps54
    go_wp2
    go_ret
    exact ⟨ret_bool HB.out.symm, Below.refl _ _⟩
  subst hnm
  have HL := Lib.hid (hn.symm.trans hm)
  have HNX := Lib.hid hn
  clear hn hm
  go_enter Try.func54, Try.ntmps54
  go_wp2
  go_loopw [13] (fun i wr => ∃ k : Nat, k ≤ n ∧ i = .int .i64 (k : Int) ∧ Hid (∀ j, j < k → xs.getD j 0 = ys.getD j 0) ∧ Hid (Below w.heap.size w wr)) (fun i _ => n - (intOf i).toNat)
  case atStart => exact ⟨0, Nat.zero_le _, rfl, Lib.hid (fun j hj => by omega), Lib.hid (Below.refl _ _)⟩
  case round =>
    obtain ⟨k, hk, rfl, HP, HN⟩ := hrel
    by_cases hlt : k < n
    case neg =>
      obtain rfl : k = n := by omega
      have HB : Hid (eqLI xs ys = true) := Lib.hid (eqLI_all HL.out (fun j hj => HP.out j (by have := HNX.out; omega)))
      go_wp2
      go_ret
      exact ⟨ret_bool HB.out.symm, HN.out⟩
    obtain ⟨b1, o1, _, he, _, _, _⟩ := H1.out.full (by omega)
    simp only [Value.slice.injEq] at he
    obtain ⟨rfl, _, rfl⟩ := he
    obtain ⟨b2, o2, _, he, _, _, _⟩ := H2.out.full (by omega)
    simp only [Value.slice.injEq] at he
    obtain ⟨rfl, _, rfl⟩ := he
    obtain ⟨g1, p1⟩ := (H1.out.below HN.out).at1 hlt
    obtain ⟨g2, p2⟩ := (H2.out.below HN.out).at1 hlt
    obtain ⟨x, hx⟩ : ∃ a, a = xs.getD k 0 := ⟨_, rfl⟩
    obtain ⟨y, hy⟩ : ∃ a, a = ys.getD k 0 := ⟨_, rfl⟩
    rw [← hx] at p1
    rw [← hy] at p2
    by_cases hxy : x = y
    · have HP2 : Hid (∀ j, j < k + 1 → xs.getD j 0 = ys.getD j 0) := Lib.hid (fun j hj => by
        by_cases e : j = k
        · rw [e, ← hx, ← hy, hxy]
        · exact HP.out j (by omega))
      subst hxy
      clear hx hy
      go_wp2_with fail
      go_quiet (fail)
      go_wp2
      go_roundw
      case rel => exact ⟨k + 1, by omega, by go_num, HP2, Lib.hid (below_drewN HN.out _)⟩
      case measure => (simp [intOf]; try omega)
    · have HB : Hid (eqLI xs ys = false) := Lib.hid (eqLI_at (k := k) (by rw [← hx, ← hy]; exact hxy))
      have q1 : (x == y) = false := by simp [hxy]
      have q2 : (x != y) = true := by simp [hxy]
      clear hx hy
      go_wp2_with fail
      go_quiet (fail)
      go_wp2
      go_ret
      exact ⟨ret_bool HB.out.symm, below_drewN HN.out _⟩
set_option maxRecDepth 100000 in
set_option maxHeartbeats 6400000 in
theorem sameOpt_i (a b : OD) (i1 i2 : Value) (n m : Nat) (w : World) (h1 : Rd w 1 i1 n (a.ids.map vn)) (h2 : Rd w 1 i2 m (b.ids.map vn)) :
    Calls Try.prog 19 #[vo a i1, vo b i2] w fun e w' => e = .returned (.bool (sameOD a b)) ∧ Below w.heap.size w w' := by
  obtain ⟨r, hr⟩ : ∃ r, r = sameOD a b := ⟨_, rfl⟩
  rw [← hr]
  obtain ⟨k1, id1, ad1, po1, to1, no1, se1, su1, le1, ac1, fl1, ke1, ma1, ids1⟩ := a
  obtain ⟨k2, id2, ad2, po2, to2, no2, se2, su2, le2, ac2, fl2, ke2, ma2, ids2⟩ := b
  unfold vo
  dsimp only at *
  have HR := Lib.hid hr
  have H1 := Lib.hid h1
  have H2 := Lib.hid h2
  clear hr h1 h2
  have hB := Lib.hid (((Below.refl w.heap.size w).alloc (Nat.le_refl _) (.cells #[.int .i64 k1, .int .i64 id1, .int .i64 ad1, .int .i64 po1, .int .i64 to1, .int .i64 no1, .int .i64 se1, .int .i64 su1, .int .i64 le1, .int .i64 ac1, .bool fl1, .string ke1, .string ma1, i1] 27)).alloc (by simp) (.cells #[.int .i64 k2, .int .i64 id2, .int .i64 ad2, .int .i64 po2, .int .i64 to2, .int .i64 no2, .int .i64 se2, .int .i64 su2, .int .i64 le2, .int .i64 ac2, .bool fl2, .string ke2, .string ma2, i2] 27))
  have KC : Hid (∀ W, Below w.heap.size w W → Calls Try.prog 54 #[i1, i2] W fun e w' => e = .returned (.bool (eqLI ids1 ids2)) ∧ Below w.heap.size w w') := Lib.hid (fun W hW => (sameInts_i i1 i2 n m ids1 ids2 W (H1.out.below hW) (H2.out.below hW)).mono fun e w' ⟨h1, h2⟩ => ⟨h1, hW.trans (h2.mono hW.size)⟩)
  obtain ⟨rr, hrr⟩ : ∃ x, x = eqLI ids1 ids2 := ⟨_, rfl⟩
  rw [← hrr] at KC
  have HRR := Lib.hid hrr
  clear hrr
  obtain ⟨W, hW⟩ : ∃ W, W = (w.alloc (.cells #[.int .i64 k1, .int .i64 id1, .int .i64 ad1, .int .i64 po1, .int .i64 to1, .int .i64 no1, .int .i64 se1, .int .i64 su1, .int .i64 le1, .int .i64 ac1, .bool fl1, .string ke1, .string ma1, i1] 27)).alloc (.cells #[.int .i64 k2, .int .i64 id2, .int .i64 ad2, .int .i64 po2, .int .i64 to2, .int .i64 no2, .int .i64 se2, .int .i64 su2, .int .i64 le2, .int .i64 ac2, .bool fl2, .string ke2, .string ma2, i2] 27) := ⟨_, rfl⟩
  rw [← hW] at hB
  have x0 : W.cell? ⟨w.heap.size, 0, none⟩ = some (.int .i64 k1) := by rw [hW]; go_simp
  have y0 : W.cell? ⟨w.heap.size + 1, 0, none⟩ = some (.int .i64 k2) := by rw [hW]; go_simp
  have x1 : W.cell? ⟨w.heap.size, 1, none⟩ = some (.int .i64 id1) := by rw [hW]; go_simp
  have y1 : W.cell? ⟨w.heap.size + 1, 1, none⟩ = some (.int .i64 id2) := by rw [hW]; go_simp
  have x2 : W.cell? ⟨w.heap.size, 2, none⟩ = some (.int .i64 ad1) := by rw [hW]; go_simp
  have y2 : W.cell? ⟨w.heap.size + 1, 2, none⟩ = some (.int .i64 ad2) := by rw [hW]; go_simp
  have x3 : W.cell? ⟨w.heap.size, 3, none⟩ = some (.int .i64 po1) := by rw [hW]; go_simp
  have y3 : W.cell? ⟨w.heap.size + 1, 3, none⟩ = some (.int .i64 po2) := by rw [hW]; go_simp
  have x4 : W.cell? ⟨w.heap.size, 4, none⟩ = some (.int .i64 to1) := by rw [hW]; go_simp
  have y4 : W.cell? ⟨w.heap.size + 1, 4, none⟩ = some (.int .i64 to2) := by rw [hW]; go_simp
  have x5 : W.cell? ⟨w.heap.size, 5, none⟩ = some (.int .i64 no1) := by rw [hW]; go_simp
  have y5 : W.cell? ⟨w.heap.size + 1, 5, none⟩ = some (.int .i64 no2) := by rw [hW]; go_simp
  have x6 : W.cell? ⟨w.heap.size, 6, none⟩ = some (.int .i64 se1) := by rw [hW]; go_simp
  have y6 : W.cell? ⟨w.heap.size + 1, 6, none⟩ = some (.int .i64 se2) := by rw [hW]; go_simp
  have x7 : W.cell? ⟨w.heap.size, 7, none⟩ = some (.int .i64 su1) := by rw [hW]; go_simp
  have y7 : W.cell? ⟨w.heap.size + 1, 7, none⟩ = some (.int .i64 su2) := by rw [hW]; go_simp
  have x8 : W.cell? ⟨w.heap.size, 8, none⟩ = some (.int .i64 le1) := by rw [hW]; go_simp
  have y8 : W.cell? ⟨w.heap.size + 1, 8, none⟩ = some (.int .i64 le2) := by rw [hW]; go_simp
  have x9 : W.cell? ⟨w.heap.size, 9, none⟩ = some (.int .i64 ac1) := by rw [hW]; go_simp
  have y9 : W.cell? ⟨w.heap.size + 1, 9, none⟩ = some (.int .i64 ac2) := by rw [hW]; go_simp
  have x10 : W.cell? ⟨w.heap.size, 10, none⟩ = some (.bool fl1) := by rw [hW]; go_simp
  have y10 : W.cell? ⟨w.heap.size + 1, 10, none⟩ = some (.bool fl2) := by rw [hW]; go_simp
  have x11 : W.cell? ⟨w.heap.size, 11, none⟩ = some (.string ke1) := by rw [hW]; go_simp
  have y11 : W.cell? ⟨w.heap.size + 1, 11, none⟩ = some (.string ke2) := by rw [hW]; go_simp
  have x12 : W.cell? ⟨w.heap.size, 12, none⟩ = some (.string ma1) := by rw [hW]; go_simp
  have y12 : W.cell? ⟨w.heap.size + 1, 12, none⟩ = some (.string ma2) := by rw [hW]; go_simp
  have x13 : W.cell? ⟨w.heap.size, 13, none⟩ = some i1 := by rw [hW]; go_simp
  have y13 : W.cell? ⟨w.heap.size + 1, 13, none⟩ = some i2 := by rw [hW]; go_simp
  have HW := Lib.hid hW
  clear hW
  go_enter Try.func19, Try.ntmps19
  go_upto_region 1 with (fail)
  rw [← HW.out]
  refine wp_region_lit ?_
  refine forget2 (n := 101) (s1 := 2) (s2 := 3) (p1 := .pointer (some ⟨w.heap.size, 0, none⟩)) (p2 := .pointer (some ⟨w.heap.size + 1, 0, none⟩)) rfl rfl rfl rfl (fun a hd hn h2 h3 => ?_)
  refine grp_first (d := 5) (s1 := 2) (s2 := 3) (q1 := .pointer (some ⟨w.heap.size, 0, none⟩)) (q2 := .pointer (some ⟨w.heap.size + 1, 0, none⟩)) (x := .int .i64 k1) (y := .int .i64 k2) (e := (k1 == k2)) rfl rfl rfl (by omega) (by omega) (by omega) h2 h3 (by go_simp) (by go_simp) (by go_simp) (by go_simp) (by go_simp) (fun a0 hd0 hn0 hf0 hb0 => ?_)
  have n0 := hn0.trans hn
  have u0 := (hf0 2 (by omega)).trans h2
  have v0 := (hf0 3 (by omega)).trans h3
  have e0 := hd0.trans hd
  clear hn0 hf0 hd0 h2 h3 hd hn
  refine grp_and (d := 11) (m := 10) (g := 5) (s1 := 2) (s2 := 3) (q1 := .pointer (some ⟨w.heap.size, 1, none⟩)) (q2 := .pointer (some ⟨w.heap.size + 1, 1, none⟩)) (x := .int .i64 id1) (y := .int .i64 id2) (e := (id1 == id2)) rfl rfl rfl (by kernel_rfl) (by omega) (by omega) (by omega) (by omega) u0 v0 hb0 (by go_simp) (by go_simp) (by go_simp) (by go_simp) (by go_simp) (fun a1 hd1 hn1 hf1 hb1 => ?_)
  have n1 := hn1.trans n0
  have u1 := (hf1 2 (by omega)).trans u0
  have v1 := (hf1 3 (by omega)).trans v0
  have e1 := hd1.trans e0
  clear hn1 hf1 hd1 u0 v0 e0 n0 hb0 x0 y0
  refine grp_and (d := 18) (m := 17) (g := 12) (s1 := 2) (s2 := 3) (q1 := .pointer (some ⟨w.heap.size, 2, none⟩)) (q2 := .pointer (some ⟨w.heap.size + 1, 2, none⟩)) (x := .int .i64 ad1) (y := .int .i64 ad2) (e := (ad1 == ad2)) rfl rfl rfl (by kernel_rfl) (by omega) (by omega) (by omega) (by omega) u1 v1 hb1 (by go_simp) (by go_simp) (by go_simp) (by go_simp) (by go_simp) (fun a2 hd2 hn2 hf2 hb2 => ?_)
  have n2 := hn2.trans n1
  have u2 := (hf2 2 (by omega)).trans u1
  have v2 := (hf2 3 (by omega)).trans v1
  have e2 := hd2.trans e1
  clear hn2 hf2 hd2 u1 v1 e1 n1 hb1 x1 y1
  refine grp_and (d := 25) (m := 24) (g := 19) (s1 := 2) (s2 := 3) (q1 := .pointer (some ⟨w.heap.size, 3, none⟩)) (q2 := .pointer (some ⟨w.heap.size + 1, 3, none⟩)) (x := .int .i64 po1) (y := .int .i64 po2) (e := (po1 == po2)) rfl rfl rfl (by kernel_rfl) (by omega) (by omega) (by omega) (by omega) u2 v2 hb2 (by go_simp) (by go_simp) (by go_simp) (by go_simp) (by go_simp) (fun a3 hd3 hn3 hf3 hb3 => ?_)
  have n3 := hn3.trans n2
  have u3 := (hf3 2 (by omega)).trans u2
  have v3 := (hf3 3 (by omega)).trans v2
  have e3 := hd3.trans e2
  clear hn3 hf3 hd3 u2 v2 e2 n2 hb2 x2 y2
  refine grp_and (d := 32) (m := 31) (g := 26) (s1 := 2) (s2 := 3) (q1 := .pointer (some ⟨w.heap.size, 4, none⟩)) (q2 := .pointer (some ⟨w.heap.size + 1, 4, none⟩)) (x := .int .i64 to1) (y := .int .i64 to2) (e := (to1 == to2)) rfl rfl rfl (by kernel_rfl) (by omega) (by omega) (by omega) (by omega) u3 v3 hb3 (by go_simp) (by go_simp) (by go_simp) (by go_simp) (by go_simp) (fun a4 hd4 hn4 hf4 hb4 => ?_)
  have n4 := hn4.trans n3
  have u4 := (hf4 2 (by omega)).trans u3
  have v4 := (hf4 3 (by omega)).trans v3
  have e4 := hd4.trans e3
  clear hn4 hf4 hd4 u3 v3 e3 n3 hb3 x3 y3
  refine grp_and (d := 39) (m := 38) (g := 33) (s1 := 2) (s2 := 3) (q1 := .pointer (some ⟨w.heap.size, 5, none⟩)) (q2 := .pointer (some ⟨w.heap.size + 1, 5, none⟩)) (x := .int .i64 no1) (y := .int .i64 no2) (e := (no1 == no2)) rfl rfl rfl (by kernel_rfl) (by omega) (by omega) (by omega) (by omega) u4 v4 hb4 (by go_simp) (by go_simp) (by go_simp) (by go_simp) (by go_simp) (fun a5 hd5 hn5 hf5 hb5 => ?_)
  have n5 := hn5.trans n4
  have u5 := (hf5 2 (by omega)).trans u4
  have v5 := (hf5 3 (by omega)).trans v4
  have e5 := hd5.trans e4
  clear hn5 hf5 hd5 u4 v4 e4 n4 hb4 x4 y4
  refine grp_and (d := 46) (m := 45) (g := 40) (s1 := 2) (s2 := 3) (q1 := .pointer (some ⟨w.heap.size, 6, none⟩)) (q2 := .pointer (some ⟨w.heap.size + 1, 6, none⟩)) (x := .int .i64 se1) (y := .int .i64 se2) (e := (se1 == se2)) rfl rfl rfl (by kernel_rfl) (by omega) (by omega) (by omega) (by omega) u5 v5 hb5 (by go_simp) (by go_simp) (by go_simp) (by go_simp) (by go_simp) (fun a6 hd6 hn6 hf6 hb6 => ?_)
  have n6 := hn6.trans n5
  have u6 := (hf6 2 (by omega)).trans u5
  have v6 := (hf6 3 (by omega)).trans v5
  have e6 := hd6.trans e5
  clear hn6 hf6 hd6 u5 v5 e5 n5 hb5 x5 y5
  refine grp_and (d := 53) (m := 52) (g := 47) (s1 := 2) (s2 := 3) (q1 := .pointer (some ⟨w.heap.size, 7, none⟩)) (q2 := .pointer (some ⟨w.heap.size + 1, 7, none⟩)) (x := .int .i64 su1) (y := .int .i64 su2) (e := (su1 == su2)) rfl rfl rfl (by kernel_rfl) (by omega) (by omega) (by omega) (by omega) u6 v6 hb6 (by go_simp) (by go_simp) (by go_simp) (by go_simp) (by go_simp) (fun a7 hd7 hn7 hf7 hb7 => ?_)
  have n7 := hn7.trans n6
  have u7 := (hf7 2 (by omega)).trans u6
  have v7 := (hf7 3 (by omega)).trans v6
  have e7 := hd7.trans e6
  clear hn7 hf7 hd7 u6 v6 e6 n6 hb6 x6 y6
  refine grp_and (d := 60) (m := 59) (g := 54) (s1 := 2) (s2 := 3) (q1 := .pointer (some ⟨w.heap.size, 8, none⟩)) (q2 := .pointer (some ⟨w.heap.size + 1, 8, none⟩)) (x := .int .i64 le1) (y := .int .i64 le2) (e := (le1 == le2)) rfl rfl rfl (by kernel_rfl) (by omega) (by omega) (by omega) (by omega) u7 v7 hb7 (by go_simp) (by go_simp) (by go_simp) (by go_simp) (by go_simp) (fun a8 hd8 hn8 hf8 hb8 => ?_)
  have n8 := hn8.trans n7
  have u8 := (hf8 2 (by omega)).trans u7
  have v8 := (hf8 3 (by omega)).trans v7
  have e8 := hd8.trans e7
  clear hn8 hf8 hd8 u7 v7 e7 n7 hb7 x7 y7
  refine grp_and (d := 67) (m := 66) (g := 61) (s1 := 2) (s2 := 3) (q1 := .pointer (some ⟨w.heap.size, 9, none⟩)) (q2 := .pointer (some ⟨w.heap.size + 1, 9, none⟩)) (x := .int .i64 ac1) (y := .int .i64 ac2) (e := (ac1 == ac2)) rfl rfl rfl (by kernel_rfl) (by omega) (by omega) (by omega) (by omega) u8 v8 hb8 (by go_simp) (by go_simp) (by go_simp) (by go_simp) (by go_simp) (fun a9 hd9 hn9 hf9 hb9 => ?_)
  have n9 := hn9.trans n8
  have u9 := (hf9 2 (by omega)).trans u8
  have v9 := (hf9 3 (by omega)).trans v8
  have e9 := hd9.trans e8
  clear hn9 hf9 hd9 u8 v8 e8 n8 hb8 x8 y8
  refine grp_and (d := 74) (m := 73) (g := 68) (s1 := 2) (s2 := 3) (q1 := .pointer (some ⟨w.heap.size, 10, none⟩)) (q2 := .pointer (some ⟨w.heap.size + 1, 10, none⟩)) (x := .bool fl1) (y := .bool fl2) (e := (fl1 == fl2)) rfl rfl rfl (by kernel_rfl) (by omega) (by omega) (by omega) (by omega) u9 v9 hb9 (by go_simp) (by go_simp) (by go_simp) (by go_simp) (by go_simp) (fun a10 hd10 hn10 hf10 hb10 => ?_)
  have n10 := hn10.trans n9
  have u10 := (hf10 2 (by omega)).trans u9
  have v10 := (hf10 3 (by omega)).trans v9
  have e10 := hd10.trans e9
  clear hn10 hf10 hd10 u9 v9 e9 n9 hb9 x9 y9
  refine grp_and (d := 81) (m := 80) (g := 75) (s1 := 2) (s2 := 3) (q1 := .pointer (some ⟨w.heap.size, 11, none⟩)) (q2 := .pointer (some ⟨w.heap.size + 1, 11, none⟩)) (x := .string ke1) (y := .string ke2) (e := (ke1.toList == ke2.toList)) rfl rfl rfl (by kernel_rfl) (by omega) (by omega) (by omega) (by omega) u10 v10 hb10 (by go_simp) (by go_simp) (by go_simp) (by go_simp) (by go_simp) (fun a11 hd11 hn11 hf11 hb11 => ?_)
  have n11 := hn11.trans n10
  have u11 := (hf11 2 (by omega)).trans u10
  have v11 := (hf11 3 (by omega)).trans v10
  have e11 := hd11.trans e10
  clear hn11 hf11 hd11 u10 v10 e10 n10 hb10 x10 y10
  refine grp_and (d := 88) (m := 87) (g := 82) (s1 := 2) (s2 := 3) (q1 := .pointer (some ⟨w.heap.size, 12, none⟩)) (q2 := .pointer (some ⟨w.heap.size + 1, 12, none⟩)) (x := .string ma1) (y := .string ma2) (e := (ma1.toList == ma2.toList)) rfl rfl rfl (by kernel_rfl) (by omega) (by omega) (by omega) (by omega) u11 v11 hb11 (by go_simp) (by go_simp) (by go_simp) (by go_simp) (by go_simp) (fun a12 hd12 hn12 hf12 hb12 => ?_)
  have n12 := hn12.trans n11
  have u12 := (hf12 2 (by omega)).trans u11
  have v12 := (hf12 3 (by omega)).trans v11
  have e12 := hd12.trans e11
  clear hn12 hf12 hd12 u11 v11 e11 n11 hb11 x11 y11
  refine grp_call (d := 95) (m := 94) (g := 89) (s1 := 2) (s2 := 3) (z := 4) (q1 := .pointer (some ⟨w.heap.size, 13, none⟩)) (q2 := .pointer (some ⟨w.heap.size + 1, 13, none⟩)) (x := i1) (y := i2) (r := rr) (S := fun w' => Below w.heap.size w w') rfl rfl rfl (by kernel_rfl) (by omega) (by omega) (by omega) (by omega) (by omega) u12 v12 hb12 (by go_simp) (by go_simp) (by go_simp) (by go_simp) rfl rfl (fun a' hx hy => by go_simp) (KC.out W hB.out) (fun e w' h => h) hB.out (fun a13 w' hd13 hn13 hf13 hb13 hS => ?_)
  rename_i K hK
  have HB : Hid (((((((((((((((k1 == k2) && (id1 == id2)) && (ad1 == ad2)) && (po1 == po2)) && (to1 == to2)) && (no1 == no2)) && (se1 == se2)) && (su1 == su2)) && (le1 == le2)) && (ac1 == ac2)) && (fl1 == fl2)) && (ke1.toList == ke2.toList)) && (ma1.toList == ma2.toList)) && rr) = r) := Lib.hid (by
    rw [HR.out, HRR.out]
    unfold sameOD eqLI sameB
    simp only [ByteArray.toList_eq])
  refine hK _ _ (wp_ret ?_)
  refine bodyPost_ret (v := .bool r) (by rw [results_tmp (t := 4) rfl, getD_of hb13, HB.out]) (hd13.trans e12) ⟨rfl, hS⟩
set_option maxRecDepth 100000 in
set_option maxHeartbeats 6400000 in
theorem sameOpt_s (a b : OD) (i1 i2 : Value) (n m : Nat) (w : World) (h1 : Rd w 1 i1 n (a.ids.map vn)) (h2 : Rd w 1 i2 m (b.ids.map vn)) :
    Calls Try.prog 17 #[vo a i1, vo b i2] w fun e w' => e = .returned (.bool (sameOD a b)) ∧ Below w.heap.size w w' := by
  obtain ⟨r, hr⟩ : ∃ r, r = sameOD a b := ⟨_, rfl⟩
  rw [← hr]
  obtain ⟨k1, id1, ad1, po1, to1, no1, se1, su1, le1, ac1, fl1, ke1, ma1, ids1⟩ := a
  obtain ⟨k2, id2, ad2, po2, to2, no2, se2, su2, le2, ac2, fl2, ke2, ma2, ids2⟩ := b
  unfold vo
  dsimp only at *
  have HR := Lib.hid hr
  have H1 := Lib.hid h1
  have H2 := Lib.hid h2
  clear hr h1 h2
  have hB := Lib.hid (((Below.refl w.heap.size w).alloc (Nat.le_refl _) (.cells #[.int .i64 k1, .int .i64 id1, .int .i64 ad1, .int .i64 po1, .int .i64 to1, .int .i64 no1, .int .i64 se1, .int .i64 su1, .int .i64 le1, .int .i64 ac1, .bool fl1, .string ke1, .string ma1, i1] 27)).alloc (by simp) (.cells #[.int .i64 k2, .int .i64 id2, .int .i64 ad2, .int .i64 po2, .int .i64 to2, .int .i64 no2, .int .i64 se2, .int .i64 su2, .int .i64 le2, .int .i64 ac2, .bool fl2, .string ke2, .string ma2, i2] 27))
  have hnl := rd_ids H1.out
  have hml := rd_ids H2.out
  obtain ⟨A1, c1, rfl, hm1⟩ := H1.out.shape
  obtain ⟨A2, c2, rfl, hm2⟩ := H2.out.shape
  unfold maxLen at hm1 hm2
  by_cases hnm : n = m
  case neg =>
    have HB : Hid (r = false) := Lib.hid (HR.out.trans (sameOD_no (fun e => hnm (by rw [hnl, hml]; exact congrArg (fun o => o.ids.length) e))))
    have q1 : ((n : Int) == (m : Int)) = false := by simp; omega
    have q2 : ((n : Int) != (m : Int)) = true := by simp; omega
    clear hnl hml
    go_enter Try.func17, Try.ntmps17
    go_wp2
    go_ret
    exact ⟨ret_bool HB.out.symm, hB.out⟩
  subst hnm
  have HL := Lib.hid (hnl.symm.trans hml)
  have HNX := Lib.hid hnl
  clear hnl hml
  obtain ⟨W, hW⟩ : ∃ W, W = (w.alloc (.cells #[.int .i64 k1, .int .i64 id1, .int .i64 ad1, .int .i64 po1, .int .i64 to1, .int .i64 no1, .int .i64 se1, .int .i64 su1, .int .i64 le1, .int .i64 ac1, .bool fl1, .string ke1, .string ma1, (.slice A1 n c1)] 27)).alloc (.cells #[.int .i64 k2, .int .i64 id2, .int .i64 ad2, .int .i64 po2, .int .i64 to2, .int .i64 no2, .int .i64 se2, .int .i64 su2, .int .i64 le2, .int .i64 ac2, .bool fl2, .string ke2, .string ma2, (.slice A2 n c2)] 27) := ⟨_, rfl⟩
  rw [← hW] at hB
  have x0 : W.cell? ⟨w.heap.size, 0, none⟩ = some (.int .i64 k1) := by rw [hW]; go_simp
  have y0 : W.cell? ⟨w.heap.size + 1, 0, none⟩ = some (.int .i64 k2) := by rw [hW]; go_simp
  have x1 : W.cell? ⟨w.heap.size, 1, none⟩ = some (.int .i64 id1) := by rw [hW]; go_simp
  have y1 : W.cell? ⟨w.heap.size + 1, 1, none⟩ = some (.int .i64 id2) := by rw [hW]; go_simp
  have x2 : W.cell? ⟨w.heap.size, 2, none⟩ = some (.int .i64 ad1) := by rw [hW]; go_simp
  have y2 : W.cell? ⟨w.heap.size + 1, 2, none⟩ = some (.int .i64 ad2) := by rw [hW]; go_simp
  have x3 : W.cell? ⟨w.heap.size, 3, none⟩ = some (.int .i64 po1) := by rw [hW]; go_simp
  have y3 : W.cell? ⟨w.heap.size + 1, 3, none⟩ = some (.int .i64 po2) := by rw [hW]; go_simp
  have x4 : W.cell? ⟨w.heap.size, 4, none⟩ = some (.int .i64 to1) := by rw [hW]; go_simp
  have y4 : W.cell? ⟨w.heap.size + 1, 4, none⟩ = some (.int .i64 to2) := by rw [hW]; go_simp
  have x5 : W.cell? ⟨w.heap.size, 5, none⟩ = some (.int .i64 no1) := by rw [hW]; go_simp
  have y5 : W.cell? ⟨w.heap.size + 1, 5, none⟩ = some (.int .i64 no2) := by rw [hW]; go_simp
  have x6 : W.cell? ⟨w.heap.size, 6, none⟩ = some (.int .i64 se1) := by rw [hW]; go_simp
  have y6 : W.cell? ⟨w.heap.size + 1, 6, none⟩ = some (.int .i64 se2) := by rw [hW]; go_simp
  have x7 : W.cell? ⟨w.heap.size, 7, none⟩ = some (.int .i64 su1) := by rw [hW]; go_simp
  have y7 : W.cell? ⟨w.heap.size + 1, 7, none⟩ = some (.int .i64 su2) := by rw [hW]; go_simp
  have x8 : W.cell? ⟨w.heap.size, 8, none⟩ = some (.int .i64 le1) := by rw [hW]; go_simp
  have y8 : W.cell? ⟨w.heap.size + 1, 8, none⟩ = some (.int .i64 le2) := by rw [hW]; go_simp
  have x9 : W.cell? ⟨w.heap.size, 9, none⟩ = some (.int .i64 ac1) := by rw [hW]; go_simp
  have y9 : W.cell? ⟨w.heap.size + 1, 9, none⟩ = some (.int .i64 ac2) := by rw [hW]; go_simp
  have x10 : W.cell? ⟨w.heap.size, 10, none⟩ = some (.bool fl1) := by rw [hW]; go_simp
  have y10 : W.cell? ⟨w.heap.size + 1, 10, none⟩ = some (.bool fl2) := by rw [hW]; go_simp
  have x11 : W.cell? ⟨w.heap.size, 11, none⟩ = some (.string ke1) := by rw [hW]; go_simp
  have y11 : W.cell? ⟨w.heap.size + 1, 11, none⟩ = some (.string ke2) := by rw [hW]; go_simp
  have x12 : W.cell? ⟨w.heap.size, 12, none⟩ = some (.string ma1) := by rw [hW]; go_simp
  have y12 : W.cell? ⟨w.heap.size + 1, 12, none⟩ = some (.string ma2) := by rw [hW]; go_simp
  have x13 : W.cell? ⟨w.heap.size, 13, none⟩ = some (.slice A1 n c1) := by rw [hW]; go_simp
  have y13 : W.cell? ⟨w.heap.size + 1, 13, none⟩ = some (.slice A2 n c2) := by rw [hW]; go_simp
  have HW := Lib.hid hW
  clear hW
  have X0 := Lib.hid x0
  have Y0 := Lib.hid y0
  clear x0 y0
  have X1 := Lib.hid x1
  have Y1 := Lib.hid y1
  clear x1 y1
  have X2 := Lib.hid x2
  have Y2 := Lib.hid y2
  clear x2 y2
  have X3 := Lib.hid x3
  have Y3 := Lib.hid y3
  clear x3 y3
  have X4 := Lib.hid x4
  have Y4 := Lib.hid y4
  clear x4 y4
  have X5 := Lib.hid x5
  have Y5 := Lib.hid y5
  clear x5 y5
  have X6 := Lib.hid x6
  have Y6 := Lib.hid y6
  clear x6 y6
  have X7 := Lib.hid x7
  have Y7 := Lib.hid y7
  clear x7 y7
  have X8 := Lib.hid x8
  have Y8 := Lib.hid y8
  clear x8 y8
  have X9 := Lib.hid x9
  have Y9 := Lib.hid y9
  clear x9 y9
  have X10 := Lib.hid x10
  have Y10 := Lib.hid y10
  clear x10 y10
  have X11 := Lib.hid x11
  have Y11 := Lib.hid y11
  clear x11 y11
  have X12 := Lib.hid x12
  have Y12 := Lib.hid y12
  clear x12 y12
  go_enter Try.func17, Try.ntmps17
  go_upto_region 1 with (fail)
  rw [← HW.out]
  go_wp2
  go_loopw [5] (fun i wr => ∃ k q : Nat, k ≤ n ∧ i = .int .i64 (k : Int) ∧ Hid (∀ j, j < k → ids1.getD j 0 = ids2.getD j 0) ∧ wr = W.drewN q) (fun i _ => n - (intOf i).toNat)
  case atStart => exact ⟨0, 0, Nat.zero_le _, rfl, Lib.hid (fun j hj => by omega), rfl⟩
  case round =>
    obtain ⟨k, q, hk, rfl, HP, rfl⟩ := hrel
    by_cases hlt : k < n
    case neg =>
      obtain rfl : k = n := by omega
      have HI : Hid (ids1 = ids2) := Lib.hid (by
        have := eqLI_all HL.out (fun j hj => HP.out j (by have := HNX.out; omega))
        unfold eqLI at this
        simpa using this)
      go_upto_region 8 with (fail)
      have x0 := X0.out
      have y0 := Y0.out
      have x1 := X1.out
      have y1 := Y1.out
      have x2 := X2.out
      have y2 := Y2.out
      have x3 := X3.out
      have y3 := Y3.out
      have x4 := X4.out
      have y4 := Y4.out
      have x5 := X5.out
      have y5 := Y5.out
      have x6 := X6.out
      have y6 := Y6.out
      have x7 := X7.out
      have y7 := Y7.out
      have x8 := X8.out
      have y8 := Y8.out
      have x9 := X9.out
      have y9 := Y9.out
      have x10 := X10.out
      have y10 := Y10.out
      have x11 := X11.out
      have y11 := Y11.out
      have x12 := X12.out
      have y12 := Y12.out
      refine wp_region_lit ?_
      refine forget2 (n := 120) (s1 := 2) (s2 := 3) (p1 := .pointer (some ⟨w.heap.size, 0, none⟩)) (p2 := .pointer (some ⟨w.heap.size + 1, 0, none⟩)) rfl rfl rfl rfl (fun a hd hn h2 h3 => ?_)
      refine grp_first (d := 31) (s1 := 2) (s2 := 3) (q1 := .pointer (some ⟨w.heap.size, 0, none⟩)) (q2 := .pointer (some ⟨w.heap.size + 1, 0, none⟩)) (x := .int .i64 k1) (y := .int .i64 k2) (e := (k1 == k2)) rfl rfl rfl (by omega) (by omega) (by omega) h2 h3 (by go_simp) (by go_simp) (by go_simp) (by go_simp) (by go_simp) (fun a0 hd0 hn0 hf0 hb0 => ?_)
      have n0 := hn0.trans hn
      have u0 := (hf0 2 (by omega)).trans h2
      have v0 := (hf0 3 (by omega)).trans h3
      have e0 := hd0.trans hd
      clear hn0 hf0 hd0 h2 h3 hd hn
      refine grp_and (d := 37) (m := 36) (g := 5) (s1 := 2) (s2 := 3) (q1 := .pointer (some ⟨w.heap.size, 1, none⟩)) (q2 := .pointer (some ⟨w.heap.size + 1, 1, none⟩)) (x := .int .i64 id1) (y := .int .i64 id2) (e := (id1 == id2)) rfl rfl rfl (by kernel_rfl) (by omega) (by omega) (by omega) (by omega) u0 v0 hb0 (by go_simp) (by go_simp) (by go_simp) (by go_simp) (by go_simp) (fun a1 hd1 hn1 hf1 hb1 => ?_)
      have n1 := hn1.trans n0
      have u1 := (hf1 2 (by omega)).trans u0
      have v1 := (hf1 3 (by omega)).trans v0
      have e1 := hd1.trans e0
      clear hn1 hf1 hd1 u0 v0 e0 n0 hb0 x0 y0
      refine grp_and (d := 44) (m := 43) (g := 12) (s1 := 2) (s2 := 3) (q1 := .pointer (some ⟨w.heap.size, 2, none⟩)) (q2 := .pointer (some ⟨w.heap.size + 1, 2, none⟩)) (x := .int .i64 ad1) (y := .int .i64 ad2) (e := (ad1 == ad2)) rfl rfl rfl (by kernel_rfl) (by omega) (by omega) (by omega) (by omega) u1 v1 hb1 (by go_simp) (by go_simp) (by go_simp) (by go_simp) (by go_simp) (fun a2 hd2 hn2 hf2 hb2 => ?_)
      have n2 := hn2.trans n1
      have u2 := (hf2 2 (by omega)).trans u1
      have v2 := (hf2 3 (by omega)).trans v1
      have e2 := hd2.trans e1
      clear hn2 hf2 hd2 u1 v1 e1 n1 hb1 x1 y1
      refine grp_and (d := 51) (m := 50) (g := 19) (s1 := 2) (s2 := 3) (q1 := .pointer (some ⟨w.heap.size, 3, none⟩)) (q2 := .pointer (some ⟨w.heap.size + 1, 3, none⟩)) (x := .int .i64 po1) (y := .int .i64 po2) (e := (po1 == po2)) rfl rfl rfl (by kernel_rfl) (by omega) (by omega) (by omega) (by omega) u2 v2 hb2 (by go_simp) (by go_simp) (by go_simp) (by go_simp) (by go_simp) (fun a3 hd3 hn3 hf3 hb3 => ?_)
      have n3 := hn3.trans n2
      have u3 := (hf3 2 (by omega)).trans u2
      have v3 := (hf3 3 (by omega)).trans v2
      have e3 := hd3.trans e2
      clear hn3 hf3 hd3 u2 v2 e2 n2 hb2 x2 y2
      refine grp_and (d := 58) (m := 57) (g := 26) (s1 := 2) (s2 := 3) (q1 := .pointer (some ⟨w.heap.size, 4, none⟩)) (q2 := .pointer (some ⟨w.heap.size + 1, 4, none⟩)) (x := .int .i64 to1) (y := .int .i64 to2) (e := (to1 == to2)) rfl rfl rfl (by kernel_rfl) (by omega) (by omega) (by omega) (by omega) u3 v3 hb3 (by go_simp) (by go_simp) (by go_simp) (by go_simp) (by go_simp) (fun a4 hd4 hn4 hf4 hb4 => ?_)
      have n4 := hn4.trans n3
      have u4 := (hf4 2 (by omega)).trans u3
      have v4 := (hf4 3 (by omega)).trans v3
      have e4 := hd4.trans e3
      clear hn4 hf4 hd4 u3 v3 e3 n3 hb3 x3 y3
      refine grp_and (d := 65) (m := 64) (g := 33) (s1 := 2) (s2 := 3) (q1 := .pointer (some ⟨w.heap.size, 5, none⟩)) (q2 := .pointer (some ⟨w.heap.size + 1, 5, none⟩)) (x := .int .i64 no1) (y := .int .i64 no2) (e := (no1 == no2)) rfl rfl rfl (by kernel_rfl) (by omega) (by omega) (by omega) (by omega) u4 v4 hb4 (by go_simp) (by go_simp) (by go_simp) (by go_simp) (by go_simp) (fun a5 hd5 hn5 hf5 hb5 => ?_)
      have n5 := hn5.trans n4
      have u5 := (hf5 2 (by omega)).trans u4
      have v5 := (hf5 3 (by omega)).trans v4
      have e5 := hd5.trans e4
      clear hn5 hf5 hd5 u4 v4 e4 n4 hb4 x4 y4
      refine grp_and (d := 72) (m := 71) (g := 40) (s1 := 2) (s2 := 3) (q1 := .pointer (some ⟨w.heap.size, 6, none⟩)) (q2 := .pointer (some ⟨w.heap.size + 1, 6, none⟩)) (x := .int .i64 se1) (y := .int .i64 se2) (e := (se1 == se2)) rfl rfl rfl (by kernel_rfl) (by omega) (by omega) (by omega) (by omega) u5 v5 hb5 (by go_simp) (by go_simp) (by go_simp) (by go_simp) (by go_simp) (fun a6 hd6 hn6 hf6 hb6 => ?_)
      have n6 := hn6.trans n5
      have u6 := (hf6 2 (by omega)).trans u5
      have v6 := (hf6 3 (by omega)).trans v5
      have e6 := hd6.trans e5
      clear hn6 hf6 hd6 u5 v5 e5 n5 hb5 x5 y5
      refine grp_and (d := 79) (m := 78) (g := 47) (s1 := 2) (s2 := 3) (q1 := .pointer (some ⟨w.heap.size, 7, none⟩)) (q2 := .pointer (some ⟨w.heap.size + 1, 7, none⟩)) (x := .int .i64 su1) (y := .int .i64 su2) (e := (su1 == su2)) rfl rfl rfl (by kernel_rfl) (by omega) (by omega) (by omega) (by omega) u6 v6 hb6 (by go_simp) (by go_simp) (by go_simp) (by go_simp) (by go_simp) (fun a7 hd7 hn7 hf7 hb7 => ?_)
      have n7 := hn7.trans n6
      have u7 := (hf7 2 (by omega)).trans u6
      have v7 := (hf7 3 (by omega)).trans v6
      have e7 := hd7.trans e6
      clear hn7 hf7 hd7 u6 v6 e6 n6 hb6 x6 y6
      refine grp_and (d := 86) (m := 85) (g := 54) (s1 := 2) (s2 := 3) (q1 := .pointer (some ⟨w.heap.size, 8, none⟩)) (q2 := .pointer (some ⟨w.heap.size + 1, 8, none⟩)) (x := .int .i64 le1) (y := .int .i64 le2) (e := (le1 == le2)) rfl rfl rfl (by kernel_rfl) (by omega) (by omega) (by omega) (by omega) u7 v7 hb7 (by go_simp) (by go_simp) (by go_simp) (by go_simp) (by go_simp) (fun a8 hd8 hn8 hf8 hb8 => ?_)
      have n8 := hn8.trans n7
      have u8 := (hf8 2 (by omega)).trans u7
      have v8 := (hf8 3 (by omega)).trans v7
      have e8 := hd8.trans e7
      clear hn8 hf8 hd8 u7 v7 e7 n7 hb7 x7 y7
      refine grp_and (d := 93) (m := 92) (g := 61) (s1 := 2) (s2 := 3) (q1 := .pointer (some ⟨w.heap.size, 9, none⟩)) (q2 := .pointer (some ⟨w.heap.size + 1, 9, none⟩)) (x := .int .i64 ac1) (y := .int .i64 ac2) (e := (ac1 == ac2)) rfl rfl rfl (by kernel_rfl) (by omega) (by omega) (by omega) (by omega) u8 v8 hb8 (by go_simp) (by go_simp) (by go_simp) (by go_simp) (by go_simp) (fun a9 hd9 hn9 hf9 hb9 => ?_)
      have n9 := hn9.trans n8
      have u9 := (hf9 2 (by omega)).trans u8
      have v9 := (hf9 3 (by omega)).trans v8
      have e9 := hd9.trans e8
      clear hn9 hf9 hd9 u8 v8 e8 n8 hb8 x8 y8
      refine grp_and (d := 100) (m := 99) (g := 68) (s1 := 2) (s2 := 3) (q1 := .pointer (some ⟨w.heap.size, 10, none⟩)) (q2 := .pointer (some ⟨w.heap.size + 1, 10, none⟩)) (x := .bool fl1) (y := .bool fl2) (e := (fl1 == fl2)) rfl rfl rfl (by kernel_rfl) (by omega) (by omega) (by omega) (by omega) u9 v9 hb9 (by go_simp) (by go_simp) (by go_simp) (by go_simp) (by go_simp) (fun a10 hd10 hn10 hf10 hb10 => ?_)
      have n10 := hn10.trans n9
      have u10 := (hf10 2 (by omega)).trans u9
      have v10 := (hf10 3 (by omega)).trans v9
      have e10 := hd10.trans e9
      clear hn10 hf10 hd10 u9 v9 e9 n9 hb9 x9 y9
      refine grp_and (d := 107) (m := 106) (g := 75) (s1 := 2) (s2 := 3) (q1 := .pointer (some ⟨w.heap.size, 11, none⟩)) (q2 := .pointer (some ⟨w.heap.size + 1, 11, none⟩)) (x := .string ke1) (y := .string ke2) (e := (ke1.toList == ke2.toList)) rfl rfl rfl (by kernel_rfl) (by omega) (by omega) (by omega) (by omega) u10 v10 hb10 (by go_simp) (by go_simp) (by go_simp) (by go_simp) (by go_simp) (fun a11 hd11 hn11 hf11 hb11 => ?_)
      have n11 := hn11.trans n10
      have u11 := (hf11 2 (by omega)).trans u10
      have v11 := (hf11 3 (by omega)).trans v10
      have e11 := hd11.trans e10
      clear hn11 hf11 hd11 u10 v10 e10 n10 hb10 x10 y10
      refine grp_fin (z := 4) (d := 114) (m := 113) (g := 82) (s1 := 2) (s2 := 3) (q1 := .pointer (some ⟨w.heap.size, 12, none⟩)) (q2 := .pointer (some ⟨w.heap.size + 1, 12, none⟩)) (x := .string ma1) (y := .string ma2) (e := (ma1.toList == ma2.toList)) rfl rfl rfl (by kernel_rfl) (by omega) (by omega) (by omega) (by omega) (by omega) u11 v11 hb11 (by go_simp) (by go_simp) (by go_simp) (by go_simp) (by go_simp) (fun a12 hd12 hn12 hf12 hb12 => ?_)
      rename_i K hK
      have HB : Hid ((((((((((((((k1 == k2) && (id1 == id2)) && (ad1 == ad2)) && (po1 == po2)) && (to1 == to2)) && (no1 == no2)) && (se1 == se2)) && (su1 == su2)) && (le1 == le2)) && (ac1 == ac2)) && (fl1 == fl2)) && (ke1.toList == ke2.toList)) && (ma1.toList == ma2.toList)) = r) := Lib.hid (by
        rw [HR.out, HI.out]
        unfold sameOD sameB
        simp only [ByteArray.toList_eq, beq_self_eq_true, Bool.and_true])
      refine hK _ _ (wp_ret ?_)
      refine bodyPost_ret (v := .bool r) (by rw [results_tmp (t := 4) rfl, getD_of hb12, HB.out]) (hd12.trans e11) ⟨rfl, below_drewN hB.out _⟩
    obtain ⟨b1, o1, _, he, _, _, _⟩ := H1.out.full (by omega)
    simp only [Value.slice.injEq] at he
    obtain ⟨rfl, _, rfl⟩ := he
    obtain ⟨b2, o2, _, he, _, _, _⟩ := H2.out.full (by omega)
    simp only [Value.slice.injEq] at he
    obtain ⟨rfl, _, rfl⟩ := he
    obtain ⟨_, p1⟩ := (H1.out.below hB.out).at1 hlt
    obtain ⟨_, p2⟩ := (H2.out.below hB.out).at1 hlt
    obtain ⟨x, hx⟩ : ∃ a, a = ids1.getD k 0 := ⟨_, rfl⟩
    obtain ⟨y, hy⟩ : ∃ a, a = ids2.getD k 0 := ⟨_, rfl⟩
    rw [← hx] at p1
    rw [← hy] at p2
    by_cases hxy : x = y
    · have HP2 : Hid (∀ j, j < k + 1 → ids1.getD j 0 = ids2.getD j 0) := Lib.hid (fun j hj => by
        by_cases e : j = k
        · rw [e, ← hx, ← hy, hxy]
        · exact HP.out j (by omega))
      subst hxy
      clear hx hy
      go_wp2_with fail
      go_quiet (fail)
      go_wp2
      go_roundw
      case rel => exact ⟨k + 1, _, by omega, by go_num, HP2, rfl⟩
      case measure => (simp [intOf]; try omega)
    · have HB : Hid (r = false) := Lib.hid (HR.out.trans (sameOD_no (fun e => hxy (by rw [hx, hy]; exact congrArg (fun o => o.ids.getD k 0) e))))
      have q1 : (x == y) = false := by simp [hxy]
      have q2 : (x != y) = true := by simp [hxy]
      clear hx hy
      go_wp2_with fail
      go_quiet (fail)
      go_wp2
      go_ret
      exact ⟨ret_bool HB.out.symm, below_drewN (below_drewN hB.out _) _⟩
end Go.Proofs.Ytkgbkgonlopciaa

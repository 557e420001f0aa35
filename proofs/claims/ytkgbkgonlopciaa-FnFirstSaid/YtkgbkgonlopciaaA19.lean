/- The walk of the reference's l06Rest: what an option has that its kind has not. -/
import Derived.Test.YtkgbkgonlopciaaA18
import Derived.Test.YtkgbkgonlopciaaK8
import Derived.Deep.Cut
import Derived.Outline
namespace Go.Proofs.Ytkgbkgonlopciaa
open Go.RowKit
set_option linter.unusedVariables false
set_option linter.unusedSimpArgs false
/-- the kind has the field of place q -/
def hsB (o : OD) (q : Nat) : Bool := (mkL (lay o.k)).getD q false
def rest1 (o : OD) : Bool := ((((((((((!hsB o 0 && (o.id != 0)) || (!hsB o 1 && o.fl)) || (!hsB o 2 && (o.to != 0))) || (!hsB o 3 && (o.no != 0))) || (!hsB o 4 && (o.ac != 0))) || (!hsB o 5 && (o.se != 0))) || (!hsB o 6 && (o.su != 0))) || (!hsB o 7 && (o.le != 0))) || (!hsB o 8 && (o.ad != 0))) || (!hsB o 9 && (o.po != 0)))
def rest2 (o : OD) : Bool := (((!hsB o 10 && (!o.ke.toList.isEmpty)) || (!hsB o 11 && (!o.ma.toList.isEmpty))) || ((o.k != 8) && decide (0 < o.ids.length)))
def restB (o : OD) : Bool := rest1 o || rest2 o
set_option maxRecDepth 100000 in
set_option maxHeartbeats 6400000 in
theorem rest_s (o : OD) (A : Option Addr) (n cp : Nat) (w : World) (h : Rd w 1 (.slice A n cp) n (o.ids.map vn)) :
    Calls Try.prog 71 #[vo o (.slice A n cp), .string (shp o.k)] w fun e w' => e = .returned (.bool (restB o)) ∧ Below w.heap.size w w' := by
  have HNX := Lib.hid (rd_ids h)
  obtain ⟨_, _, hs2, hmx⟩ := h.shape
  unfold maxLen at hmx
  clear hs2 h
  obtain ⟨r, hr⟩ : ∃ r, r = restB o := ⟨_, rfl⟩
  rw [← hr]
  have HR := Lib.hid hr
  clear hr
  go_enter Try.func71, Try.ntmps71
  go_upto_region 1 with (fail)
  obtain ⟨W0, hW0⟩ : ∃ W, W = w.alloc (.cells (voC o (.slice A n cp)).toArray 27) := ⟨_, rfl⟩
  change Code.wp _ _ _ _ (w.alloc (.cells (voC o (.slice A n cp)).toArray 27))
  rw [← hW0]
  have L0 := Lib.hid ((Below.refl w.heap.size w).alloc (Nat.le_refl _) (.cells (voC o (.slice A n cp)).toArray 27))
  have X0 := Lib.hid (Bx.new w (voC o (.slice A n cp)).toArray 27)
  rw [← hW0] at L0 X0
  clear hW0
  go_wp2_with fail
  refine (marks_s o.k _).mono ?_
  rintro e W ⟨v, rfl, ho, hb⟩
  have L1 := Lib.hid (L0.out.trans (hb.mono L0.out.size))
  have X1 := Lib.hid (X0.out.below hb)
  obtain ⟨gm, cm, rfl⟩ := ho.full (by omega)
  have HH : Hid (∀ q, q < 12 → W.cell? ⟨gm, q, none⟩ = some (.bool (hsB o q))) := Lib.hid (fun q hq => (ho.cellAt (by
    unfold hsB
    rw [List.getElem?_map, List.getD_eq_getElem?_getD, List.getElem?_eq_getElem (by rw [mkL_len]; omega)]
    rfl)).1)
  clear ho hb L0 X0
  go_upto_region 2 with (fail)
  have h0 : W.cell? ⟨gm, 0, none⟩ = some (.bool (hsB o 0)) := HH.out 0 (by omega)
  have h1 : W.cell? ⟨gm, 1, none⟩ = some (.bool (hsB o 1)) := HH.out 1 (by omega)
  have h2 : W.cell? ⟨gm, 2, none⟩ = some (.bool (hsB o 2)) := HH.out 2 (by omega)
  have h3 : W.cell? ⟨gm, 3, none⟩ = some (.bool (hsB o 3)) := HH.out 3 (by omega)
  have h4 : W.cell? ⟨gm, 4, none⟩ = some (.bool (hsB o 4)) := HH.out 4 (by omega)
  have h5 : W.cell? ⟨gm, 5, none⟩ = some (.bool (hsB o 5)) := HH.out 5 (by omega)
  have h6 : W.cell? ⟨gm, 6, none⟩ = some (.bool (hsB o 6)) := HH.out 6 (by omega)
  have h7 : W.cell? ⟨gm, 7, none⟩ = some (.bool (hsB o 7)) := HH.out 7 (by omega)
  have h8 : W.cell? ⟨gm, 8, none⟩ = some (.bool (hsB o 8)) := HH.out 8 (by omega)
  have h9 : W.cell? ⟨gm, 9, none⟩ = some (.bool (hsB o 9)) := HH.out 9 (by omega)
  have h10 : W.cell? ⟨gm, 10, none⟩ = some (.bool (hsB o 10)) := HH.out 10 (by omega)
  have h11 : W.cell? ⟨gm, 11, none⟩ = some (.bool (hsB o 11)) := HH.out 11 (by omega)
  have x1 : W.cell? ⟨w.heap.size, 1, none⟩ = some (.int .i64 o.id) := X1.out.2 1 _ rfl
  have x10 : W.cell? ⟨w.heap.size, 10, none⟩ = some (.bool o.fl) := X1.out.2 10 _ rfl
  have x4 : W.cell? ⟨w.heap.size, 4, none⟩ = some (.int .i64 o.to) := X1.out.2 4 _ rfl
  have x5 : W.cell? ⟨w.heap.size, 5, none⟩ = some (.int .i64 o.no) := X1.out.2 5 _ rfl
  have x9 : W.cell? ⟨w.heap.size, 9, none⟩ = some (.int .i64 o.ac) := X1.out.2 9 _ rfl
  have x6 : W.cell? ⟨w.heap.size, 6, none⟩ = some (.int .i64 o.se) := X1.out.2 6 _ rfl
  have x7 : W.cell? ⟨w.heap.size, 7, none⟩ = some (.int .i64 o.su) := X1.out.2 7 _ rfl
  have x8 : W.cell? ⟨w.heap.size, 8, none⟩ = some (.int .i64 o.le) := X1.out.2 8 _ rfl
  have x2 : W.cell? ⟨w.heap.size, 2, none⟩ = some (.int .i64 o.ad) := X1.out.2 2 _ rfl
  have x3 : W.cell? ⟨w.heap.size, 3, none⟩ = some (.int .i64 o.po) := X1.out.2 3 _ rfl
  have x11 : W.cell? ⟨w.heap.size, 11, none⟩ = some (.string o.ke) := X1.out.2 11 _ rfl
  have x12 : W.cell? ⟨w.heap.size, 12, none⟩ = some (.string o.ma) := X1.out.2 12 _ rfl
  have x0 : W.cell? ⟨w.heap.size, 0, none⟩ = some (.int .i64 o.k) := X1.out.2 0 _ rfl
  have x13 : W.cell? ⟨w.heap.size, 13, none⟩ = some (.slice A n cp) := X1.out.2 13 _ rfl
  obtain ⟨b0, hb0⟩ : ∃ b, b = hsB o 0 := ⟨_, rfl⟩
  rw [← hb0] at h0
  have HB0 := Lib.hid hb0
  clear hb0
  obtain ⟨b1, hb1⟩ : ∃ b, b = hsB o 1 := ⟨_, rfl⟩
  rw [← hb1] at h1
  have HB1 := Lib.hid hb1
  clear hb1
  obtain ⟨b2, hb2⟩ : ∃ b, b = hsB o 2 := ⟨_, rfl⟩
  rw [← hb2] at h2
  have HB2 := Lib.hid hb2
  clear hb2
  obtain ⟨b3, hb3⟩ : ∃ b, b = hsB o 3 := ⟨_, rfl⟩
  rw [← hb3] at h3
  have HB3 := Lib.hid hb3
  clear hb3
  obtain ⟨b4, hb4⟩ : ∃ b, b = hsB o 4 := ⟨_, rfl⟩
  rw [← hb4] at h4
  have HB4 := Lib.hid hb4
  clear hb4
  obtain ⟨b5, hb5⟩ : ∃ b, b = hsB o 5 := ⟨_, rfl⟩
  rw [← hb5] at h5
  have HB5 := Lib.hid hb5
  clear hb5
  obtain ⟨b6, hb6⟩ : ∃ b, b = hsB o 6 := ⟨_, rfl⟩
  rw [← hb6] at h6
  have HB6 := Lib.hid hb6
  clear hb6
  obtain ⟨b7, hb7⟩ : ∃ b, b = hsB o 7 := ⟨_, rfl⟩
  rw [← hb7] at h7
  have HB7 := Lib.hid hb7
  clear hb7
  obtain ⟨b8, hb8⟩ : ∃ b, b = hsB o 8 := ⟨_, rfl⟩
  rw [← hb8] at h8
  have HB8 := Lib.hid hb8
  clear hb8
  obtain ⟨b9, hb9⟩ : ∃ b, b = hsB o 9 := ⟨_, rfl⟩
  rw [← hb9] at h9
  have HB9 := Lib.hid hb9
  clear hb9
  obtain ⟨b10, hb10⟩ : ∃ b, b = hsB o 10 := ⟨_, rfl⟩
  rw [← hb10] at h10
  have HB10 := Lib.hid hb10
  clear hb10
  obtain ⟨b11, hb11⟩ : ∃ b, b = hsB o 11 := ⟨_, rfl⟩
  rw [← hb11] at h11
  have HB11 := Lib.hid hb11
  clear hb11
  refine wp_region_lit ?_
  refine forget2 (n := 146) (s1 := 5) (s2 := 2) (p1 := .slice (some ⟨gm, 0, none⟩) 12 cm) (p2 := .pointer (some ⟨w.heap.size, 0, none⟩)) rfl rfl rfl rfl (fun a hd hn h5 h2 => ?_)
  have n_s := hn
  have u_s := h5
  have v_s := h2
  have e_s := hd
  clear hn h5 h2 hd
  refine grp_o1c (d := 8) (s := 5) (s2 := 2) (k := 0) (v5 := .slice (some ⟨gm, 0, none⟩) 12 cm) (q1 := .pointer (some ⟨gm, 0, none⟩)) (h := b0) (q2 := .pointer (some ⟨w.heap.size, 1, none⟩)) (e := (o.id != 0)) (x := .int .i64 o.id) (c := .int .i64 0) (z := 0) (b := false) (m := 0) (g := 0) rfl rfl rfl (by kernel_rfl) (by omega) (by omega) (by omega) u_s v_s (by go_simp) (by go_simp) (by go_simp) (by go_simp) (by go_simp) (fun a_0 hd_0 hn_0 hf_0 c_0 => ?_)
  have n_0 := hn_0.trans n_s
  have u_0 := (hf_0 5 (by omega)).trans u_s
  have v_0 := (hf_0 2 (by omega)).trans v_s
  have e_0 := hd_0.trans e_s
  clear hn_0 hf_0 hd_0
  refine grp_of (d := 18) (s := 5) (s2 := 2) (k := 1) (v5 := .slice (some ⟨gm, 0, none⟩) 12 cm) (q1 := .pointer (some ⟨gm, 1, none⟩)) (h := b1) (q2 := .pointer (some ⟨w.heap.size, 10, none⟩)) (e := o.fl) (z := 0) (x := undef) (c := undef) (t2 := 0) (m := 17) (g := 9) rfl rfl rfl (by kernel_rfl) (by omega) (by kernel_rfl) (by omega) (by omega) (by omega) u_0 v_0 c_0 (by go_simp) (by go_simp) (by go_simp) (by go_simp) (fun a_1 hd_1 hn_1 hf_1 c_1 => ?_)
  have n_1 := hn_1.trans n_0
  have u_1 := (hf_1 5 (by omega)).trans u_0
  have v_1 := (hf_1 2 (by omega)).trans v_0
  have e_1 := hd_1.trans e_0
  clear hn_1 hf_1 hd_1
  refine grp_oc (d := 28) (s := 5) (s2 := 2) (k := 2) (v5 := .slice (some ⟨gm, 0, none⟩) 12 cm) (q1 := .pointer (some ⟨gm, 2, none⟩)) (h := b2) (q2 := .pointer (some ⟨w.heap.size, 4, none⟩)) (e := (o.to != 0)) (x := .int .i64 o.to) (c := .int .i64 0) (z := 0) (m := 27) (g := 19) rfl rfl rfl (by kernel_rfl) (by omega) (by kernel_rfl) (by omega) (by omega) (by omega) u_1 v_1 c_1 (by go_simp) (by go_simp) (by go_simp) (by go_simp) (by go_simp) (fun a_2 hd_2 hn_2 hf_2 c_2 => ?_)
  have n_2 := hn_2.trans n_1
  have u_2 := (hf_2 5 (by omega)).trans u_1
  have v_2 := (hf_2 2 (by omega)).trans v_1
  have e_2 := hd_2.trans e_1
  clear hn_2 hf_2 hd_2
  refine grp_oc (d := 39) (s := 5) (s2 := 2) (k := 3) (v5 := .slice (some ⟨gm, 0, none⟩) 12 cm) (q1 := .pointer (some ⟨gm, 3, none⟩)) (h := b3) (q2 := .pointer (some ⟨w.heap.size, 5, none⟩)) (e := (o.no != 0)) (x := .int .i64 o.no) (c := .int .i64 0) (z := 0) (m := 38) (g := 30) rfl rfl rfl (by kernel_rfl) (by omega) (by kernel_rfl) (by omega) (by omega) (by omega) u_2 v_2 c_2 (by go_simp) (by go_simp) (by go_simp) (by go_simp) (by go_simp) (fun a_3 hd_3 hn_3 hf_3 c_3 => ?_)
  have n_3 := hn_3.trans n_2
  have u_3 := (hf_3 5 (by omega)).trans u_2
  have v_3 := (hf_3 2 (by omega)).trans v_2
  have e_3 := hd_3.trans e_2
  clear hn_3 hf_3 hd_3
  refine grp_oc (d := 50) (s := 5) (s2 := 2) (k := 4) (v5 := .slice (some ⟨gm, 0, none⟩) 12 cm) (q1 := .pointer (some ⟨gm, 4, none⟩)) (h := b4) (q2 := .pointer (some ⟨w.heap.size, 9, none⟩)) (e := (o.ac != 0)) (x := .int .i64 o.ac) (c := .int .i64 0) (z := 0) (m := 49) (g := 41) rfl rfl rfl (by kernel_rfl) (by omega) (by kernel_rfl) (by omega) (by omega) (by omega) u_3 v_3 c_3 (by go_simp) (by go_simp) (by go_simp) (by go_simp) (by go_simp) (fun a_4 hd_4 hn_4 hf_4 c_4 => ?_)
  have n_4 := hn_4.trans n_3
  have u_4 := (hf_4 5 (by omega)).trans u_3
  have v_4 := (hf_4 2 (by omega)).trans v_3
  have e_4 := hd_4.trans e_3
  clear hn_4 hf_4 hd_4
  refine grp_oc (d := 61) (s := 5) (s2 := 2) (k := 5) (v5 := .slice (some ⟨gm, 0, none⟩) 12 cm) (q1 := .pointer (some ⟨gm, 5, none⟩)) (h := b5) (q2 := .pointer (some ⟨w.heap.size, 6, none⟩)) (e := (o.se != 0)) (x := .int .i64 o.se) (c := .int .i64 0) (z := 0) (m := 60) (g := 52) rfl rfl rfl (by kernel_rfl) (by omega) (by kernel_rfl) (by omega) (by omega) (by omega) u_4 v_4 c_4 (by go_simp) (by go_simp) (by go_simp) (by go_simp) (by go_simp) (fun a_5 hd_5 hn_5 hf_5 c_5 => ?_)
  have n_5 := hn_5.trans n_4
  have u_5 := (hf_5 5 (by omega)).trans u_4
  have v_5 := (hf_5 2 (by omega)).trans v_4
  have e_5 := hd_5.trans e_4
  clear hn_5 hf_5 hd_5
  refine grp_oc (d := 72) (s := 5) (s2 := 2) (k := 6) (v5 := .slice (some ⟨gm, 0, none⟩) 12 cm) (q1 := .pointer (some ⟨gm, 6, none⟩)) (h := b6) (q2 := .pointer (some ⟨w.heap.size, 7, none⟩)) (e := (o.su != 0)) (x := .int .i64 o.su) (c := .int .i64 0) (z := 0) (m := 71) (g := 63) rfl rfl rfl (by kernel_rfl) (by omega) (by kernel_rfl) (by omega) (by omega) (by omega) u_5 v_5 c_5 (by go_simp) (by go_simp) (by go_simp) (by go_simp) (by go_simp) (fun a_6 hd_6 hn_6 hf_6 c_6 => ?_)
  have n_6 := hn_6.trans n_5
  have u_6 := (hf_6 5 (by omega)).trans u_5
  have v_6 := (hf_6 2 (by omega)).trans v_5
  have e_6 := hd_6.trans e_5
  clear hn_6 hf_6 hd_6
  refine grp_oc (d := 83) (s := 5) (s2 := 2) (k := 7) (v5 := .slice (some ⟨gm, 0, none⟩) 12 cm) (q1 := .pointer (some ⟨gm, 7, none⟩)) (h := b7) (q2 := .pointer (some ⟨w.heap.size, 8, none⟩)) (e := (o.le != 0)) (x := .int .i64 o.le) (c := .int .i64 0) (z := 0) (m := 82) (g := 74) rfl rfl rfl (by kernel_rfl) (by omega) (by kernel_rfl) (by omega) (by omega) (by omega) u_6 v_6 c_6 (by go_simp) (by go_simp) (by go_simp) (by go_simp) (by go_simp) (fun a_7 hd_7 hn_7 hf_7 c_7 => ?_)
  have n_7 := hn_7.trans n_6
  have u_7 := (hf_7 5 (by omega)).trans u_6
  have v_7 := (hf_7 2 (by omega)).trans v_6
  have e_7 := hd_7.trans e_6
  clear hn_7 hf_7 hd_7
  refine grp_oc (d := 94) (s := 5) (s2 := 2) (k := 8) (v5 := .slice (some ⟨gm, 0, none⟩) 12 cm) (q1 := .pointer (some ⟨gm, 8, none⟩)) (h := b8) (q2 := .pointer (some ⟨w.heap.size, 2, none⟩)) (e := (o.ad != 0)) (x := .int .i64 o.ad) (c := .int .i64 0) (z := 0) (m := 93) (g := 85) rfl rfl rfl (by kernel_rfl) (by omega) (by kernel_rfl) (by omega) (by omega) (by omega) u_7 v_7 c_7 (by go_simp) (by go_simp) (by go_simp) (by go_simp) (by go_simp) (fun a_8 hd_8 hn_8 hf_8 c_8 => ?_)
  have n_8 := hn_8.trans n_7
  have u_8 := (hf_8 5 (by omega)).trans u_7
  have v_8 := (hf_8 2 (by omega)).trans v_7
  have e_8 := hd_8.trans e_7
  clear hn_8 hf_8 hd_8
  refine grp_oce (d := 105) (s := 5) (s2 := 2) (k := 9) (v5 := .slice (some ⟨gm, 0, none⟩) 12 cm) (q1 := .pointer (some ⟨gm, 9, none⟩)) (h := b9) (q2 := .pointer (some ⟨w.heap.size, 3, none⟩)) (e := (o.po != 0)) (x := .int .i64 o.po) (c := .int .i64 0) (z := 0) (m := 104) (g := 96) rfl rfl rfl (by kernel_rfl) (by omega) (by kernel_rfl) (by omega) (by omega) (by omega) u_8 v_8 c_8 (by go_simp) (by go_simp) (by go_simp) (by go_simp) (by go_simp) (fun a_9 hd_9 hn_9 hf_9 c_9 => ?_)
  have n_9 := hn_9.trans n_8
  have u_9 := (hf_9 5 (by omega)).trans u_8
  have v_9 := (hf_9 2 (by omega)).trans v_8
  have e_9 := hd_9.trans e_8
  clear hn_9 hf_9 hd_9
  rename_i K1 hK1 K hK
  obtain ⟨T, hT⟩ : ∃ T, T = ((((((((((!b0 && (o.id != 0)) || (!b1 && o.fl)) || (!b2 && (o.to != 0))) || (!b3 && (o.no != 0))) || (!b4 && (o.ac != 0))) || (!b5 && (o.se != 0))) || (!b6 && (o.su != 0))) || (!b7 && (o.le != 0))) || (!b8 && (o.ad != 0))) || (!b9 && (o.po != 0))) := ⟨_, rfl⟩
  rw [← hT] at c_9
  have HT : Hid (T = rest1 o) := Lib.hid (by rw [hT]; unfold rest1; rw [← HB0.out, ← HB1.out, ← HB2.out, ← HB3.out, ← HB4.out, ← HB5.out, ← HB6.out, ← HB7.out, ← HB8.out, ← HB9.out])
  clear hT
  refine hK _ _ (wp_cond (eval_tmp c_9) ?_)
  have e_9 := e_9
  cases T
  case true =>
    have HB : Hid (r = true) := Lib.hid (by rw [HR.out]; unfold restB; rw [← HT.out]; rfl)
    refine wp_seq ?_
    refine wp_region_lit ?_
    refine wp_u (v := .bool true) rfl (w' := W) (by rfl) ?_
    refine wp_ret ?_
    simp only [Exit.then]
    refine bodyPost_ret (v := .bool r) (by rw [results_tmp (t := 4) rfl, getD_of (put_same (by omega) _), HB.out]) (by rw [put_defers]; exact e_9) ⟨rfl, L1.out⟩
  refine wp_skip ?_
  refine hK1 _ _ ?_
  refine wp_seq ?_
  refine wp_region_lit ?_
  refine grp_o1c (d := 115) (s := 5) (s2 := 2) (k := 10) (v5 := .slice (some ⟨gm, 0, none⟩) 12 cm) (q1 := .pointer (some ⟨gm, 10, none⟩)) (h := b10) (q2 := .pointer (some ⟨w.heap.size, 11, none⟩)) (e := (!o.ke.toList.isEmpty)) (x := .string o.ke) (c := .string ⟨#[]⟩) (z := 0) (b := false) (m := 0) (g := 0) rfl rfl rfl (by kernel_rfl) (by omega) (by omega) (by omega) u_9 v_9 (by go_simp) (by go_simp) (by go_simp) (by go_simp) (by go_simp) (fun a_10 hd_10 hn_10 hf_10 c_10 => ?_)
  have n_10 := hn_10.trans n_9
  have u_10 := (hf_10 5 (by omega)).trans u_9
  have v_10 := (hf_10 2 (by omega)).trans v_9
  have e_10 := hd_10.trans e_9
  clear hn_10 hf_10 hd_10
  refine grp_oc (d := 125) (s := 5) (s2 := 2) (k := 11) (v5 := .slice (some ⟨gm, 0, none⟩) 12 cm) (q1 := .pointer (some ⟨gm, 11, none⟩)) (h := b11) (q2 := .pointer (some ⟨w.heap.size, 12, none⟩)) (e := (!o.ma.toList.isEmpty)) (x := .string o.ma) (c := .string ⟨#[]⟩) (z := 0) (m := 124) (g := 9) rfl rfl rfl (by kernel_rfl) (by omega) (by kernel_rfl) (by omega) (by omega) (by omega) u_10 v_10 c_10 (by go_simp) (by go_simp) (by go_simp) (by go_simp) (by go_simp) (fun a_11 hd_11 hn_11 hf_11 c_11 => ?_)
  have n_11 := hn_11.trans n_10
  have u_11 := (hf_11 5 (by omega)).trans u_10
  have v_11 := (hf_11 2 (by omega)).trans v_10
  have e_11 := hd_11.trans e_10
  clear hn_11 hf_11 hd_11
  refine grp_last (d := 136) (m := 135) (g := 20) (z := 4) (s2 := 2) (x := .int .i64 0) (c := .int .i64 8) (q1 := .pointer (some ⟨w.heap.size, 0, none⟩)) (v5 := .int .i64 o.k) (h := (o.k != 8)) (q2 := .pointer (some ⟨w.heap.size, 13, none⟩)) (A := A) (n := n) (cp := cp) (e := decide (0 < n)) (T1 := 0) (s := 0) rfl rfl rfl (by kernel_rfl) (by omega) (by kernel_rfl) (by omega) (by omega) (by omega) v_11 c_11 (by go_simp) (by go_simp) (by go_simp) (by go_simp) (by go_simp) (by go_simp) (fun a' ha => by unfold execOp; simp [resolve, invoke, builtin, ha]; go_simp) (fun a_12 hd_12 hn_12 hf_12 c_12 => ?_)
  have HF : Hid ((((!b10 && (!o.ke.toList.isEmpty)) || (!b11 && (!o.ma.toList.isEmpty))) || ((o.k != 8) && decide (0 < n))) = r) := Lib.hid (by
    rw [HR.out]
    unfold restB
    rw [← HT.out, Bool.false_or]
    unfold rest2
    rw [← HB10.out, ← HB11.out, ← HNX.out])
  rw [HF.out] at c_12
  refine wp_ret ?_
  refine bodyPost_ret (v := .bool r) (by rw [results_tmp (t := 4) rfl, getD_of c_12]) (hd_12.trans e_11) ⟨rfl, L1.out⟩
end Go.Proofs.Ytkgbkgonlopciaa

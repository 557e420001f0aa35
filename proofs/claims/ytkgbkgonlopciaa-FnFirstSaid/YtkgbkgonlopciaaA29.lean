/- The walks of SegText. -/
import Derived.Test.YtkgbkgonlopciaaA28
import Derived.Test.YtkgbkgonlopciaaA24
import Derived.Deep.Cut
import Derived.Outline
import Derived.Deep.QuietTactic
import Derived.BigQuiet
import Derived.Deep.RegionHeld
namespace Go.Proofs.Ytkgbkgonlopciaa
open Go.RowKit
set_option linter.unusedVariables false
set_option linter.unusedSimpArgs false
theorem wpl_seg {ops : Array Oper} {rest : List Oper} {op : Oper} {a : Act} {w : World} {Q : Exit → Act → World → Prop} {x : Operand} {b : Nat} {q : SD} {ov : Value} (hgd : op.guard = none) (ho : op.op = .load 37 x)
    (hx : a.eval x = .pointer (some ⟨b, 0, none⟩)) (h : Bx w b (vxC q ov)) (hK : wpList Try.prog ops Q rest (a.put op.dst (vx q ov)) w) : wpList Try.prog ops Q (op :: rest) a w :=
  wpList_load_mid hgd 37 x ho b 0 hx (vxC q ov) _ (fun j v hj => by rw [Nat.zero_add]; exact h.2 j v hj) Try.underlying37 rfl (by kernel_rfl) hK
/-- the head of a segment's text -/
def headL (x : SD) : List UInt8 := ((((((numTextL x.fr 4 ++ numTextL x.tt 4) ++ numTextL x.po 2) ++ numTextL x.pe 2) ++ numTextL x.sq 4) ++ numTextL x.ak 4) ++ numTextL x.fg 1) ++ numTextL x.ops.length 1
theorem headL_len (x : SD) : (headL x).length ≤ 22 := by
  unfold headL
  simp only [List.length_append]
  have h0 := nt_len_le x.fr 4 (by omega)
  have h1 := nt_len_le x.tt 4 (by omega)
  have h2 := nt_len_le x.po 2 (by omega)
  have h3 := nt_len_le x.pe 2 (by omega)
  have h4 := nt_len_le x.sq 4 (by omega)
  have h5 := nt_len_le x.ak 4 (by omega)
  have h6 := nt_len_le x.fg 1 (by omega)
  have h7 := nt_len_le x.ops.length 1 (by omega)
  omega
theorem segL_no {x : SD} (h : segOk x = false) : segL x = [] := by unfold segL; rw [h]; rfl
theorem segL_yes {x : SD} (h : segOk x = true) : segL x = ((headL x ++ x.ops.flatMap optL) ++ numTextL x.da.size 2) ++ x.da.data.toList := by
  unfold segL headL
  rw [h, if_pos rfl]
  simp only [List.append_assoc]
theorem segOk_le {x : SD} (h : segOk x = true) : x.ops.length ≤ 4 ∧ x.da.size ≤ 120 := by
  unfold segOk at h
  simp only [Bool.and_eq_true, decide_eq_true_eq] at h
  exact ⟨h.1.1.2, h.1.2⟩
theorem flat_step {os : List OD} {k : Nat} {o : OD} (h : os[k]? = some o) : (os.take (k + 1)).flatMap optL = (os.take k).flatMap optL ++ optL o := by
  obtain ⟨hk, rfl⟩ := List.getElem?_eq_some_iff.1 h
  rw [List.take_succ_eq_append_getElem hk, List.flatMap_append]
  simp
theorem flat_len : ∀ (os : List OD), (os.flatMap optL).length ≤ 42 * os.length
  | [] => by simp
  | o :: os => by
    rw [List.flatMap_cons, List.length_append, List.length_cons]
    have h1 := optL_len o
    have h2 := flat_len os
    omega
set_option maxRecDepth 100000 in
set_option maxHeartbeats 6400000 in
theorem segText_i (x : SD) (A : Option Addr) (n cp : Nat) (ivs : List Value) (w : World) (h : RdO w (.slice A n cp) n x.ops ivs) (hwf : x.wf) (hni : ∀ o ∈ x.ops, o.ids.length ≤ 4294967296) :
    Calls Try.prog 47 #[vx x (.slice A n cp)] w fun e w' => e = .returned (.string (str (segL x))) ∧ Below w.heap.size w w' := by
  obtain ⟨R, hR⟩ : ∃ R, R = str (segL x) := ⟨_, rfl⟩
  rw [← hR]
  have HR := Lib.hid hR
  have H := Lib.hid h
  have HW := Lib.hid hwf
  have HI := Lib.hid hni
  have HL := Lib.hid h.lo
  obtain ⟨_, _, e0, hm⟩ := h.shape
  unfold maxLen at hm
  clear hR h hwf hni e0
  go_enter Try.func47, Try.ntmps47
  go_upto_region 1 with (fail)
  obtain ⟨W, hW⟩ : ∃ W, W = w.alloc (.cells (vxC x (.slice A n cp)).toArray 37) := ⟨_, rfl⟩
  change Code.wp _ _ _ _ (w.alloc (.cells (vxC x (.slice A n cp)).toArray 37))
  rw [← hW]
  have L0 := Lib.hid ((Below.refl w.heap.size w).alloc (Nat.le_refl _) (.cells (vxC x (.slice A n cp)).toArray 37))
  have X0 := Lib.hid (Bx.new w (vxC x (.slice A n cp)).toArray 37)
  rw [← hW] at L0 X0
  clear hW
  obtain ⟨b, hb⟩ : ∃ b, b = segOk x := ⟨_, rfl⟩
  have HB := Lib.hid hb
  clear hb
  go_wp2_with (refine wpl_seg rfl (by rfl) (by rfl) X0.out ?_)
  refine (segOk_i x A n cp ivs _ (H.out.below L0.out) HW.out HI.out).mono ?_
  rw [← HB.out]
  rintro e W1 ⟨rfl, hb⟩
  have L1 := Lib.hid (L0.out.trans (hb.mono L0.out.size))
  have X1 := Lib.hid (X0.out.below hb)
  clear hb X0 L0
  cases b
  case false =>
    have HN : Hid (R = ⟨#[]⟩) := Lib.hid (by rw [HR.out, segL_no HB.out.symm]; rfl)
    go_wp2
    go_ret
    exact ⟨ret_str HN.out.symm, L1.out⟩
  have hn4 : n ≤ 4 := by have := (segOk_le HB.out.symm).1; have := HL.out; omega
  have hd4 : x.da.size ≤ 120 := (segOk_le HB.out.symm).2
  obtain ⟨T0, hT0⟩ : ∃ T, T = str (numTextL x.fr 4) := ⟨_, rfl⟩
  have s0 : T0.size ≤ 4 := by rw [hT0, str_size]; have := nt_len_le x.fr 4 (by omega); omega
  have HT0 := Lib.hid hT0
  clear hT0
  obtain ⟨T1, hT1⟩ : ∃ T, T = str (numTextL x.tt 4) := ⟨_, rfl⟩
  have s1 : T1.size ≤ 4 := by rw [hT1, str_size]; have := nt_len_le x.tt 4 (by omega); omega
  have HT1 := Lib.hid hT1
  clear hT1
  obtain ⟨T2, hT2⟩ : ∃ T, T = str (numTextL x.po 2) := ⟨_, rfl⟩
  have s2 : T2.size ≤ 2 := by rw [hT2, str_size]; have := nt_len_le x.po 2 (by omega); omega
  have HT2 := Lib.hid hT2
  clear hT2
  obtain ⟨T3, hT3⟩ : ∃ T, T = str (numTextL x.pe 2) := ⟨_, rfl⟩
  have s3 : T3.size ≤ 2 := by rw [hT3, str_size]; have := nt_len_le x.pe 2 (by omega); omega
  have HT3 := Lib.hid hT3
  clear hT3
  obtain ⟨T4, hT4⟩ : ∃ T, T = str (numTextL x.sq 4) := ⟨_, rfl⟩
  have s4 : T4.size ≤ 4 := by rw [hT4, str_size]; have := nt_len_le x.sq 4 (by omega); omega
  have HT4 := Lib.hid hT4
  clear hT4
  obtain ⟨T5, hT5⟩ : ∃ T, T = str (numTextL x.ak 4) := ⟨_, rfl⟩
  have s5 : T5.size ≤ 4 := by rw [hT5, str_size]; have := nt_len_le x.ak 4 (by omega); omega
  have HT5 := Lib.hid hT5
  clear hT5
  obtain ⟨T6, hT6⟩ : ∃ T, T = str (numTextL x.fg 1) := ⟨_, rfl⟩
  have s6 : T6.size ≤ 1 := by rw [hT6, str_size]; have := nt_len_le x.fg 1 (by omega); omega
  have HT6 := Lib.hid hT6
  clear hT6
  obtain ⟨T7, hT7⟩ : ∃ T, T = str (numTextL (n : Int) 1) := ⟨_, rfl⟩
  have s7 : T7.size ≤ 1 := by rw [hT7, str_size]; have := nt_len_le (n : Int) 1 (by omega); omega
  have HT7 := Lib.hid hT7
  clear hT7
  obtain ⟨U1, hU1⟩ : ∃ U, U = T0 ++ T1 := ⟨_, rfl⟩
  have u1 : U1.size ≤ T0.size + T1.size := by rw [hU1, app_size]; exact Nat.le_refl _
  have g1 : ¬ (9223372036854775807 < T0.size + T1.size) := by omega
  have HU1 := Lib.hid hU1
  clear hU1
  obtain ⟨U2, hU2⟩ : ∃ U, U = U1 ++ T2 := ⟨_, rfl⟩
  have u2 : U2.size ≤ U1.size + T2.size := by rw [hU2, app_size]; exact Nat.le_refl _
  have g2 : ¬ (9223372036854775807 < U1.size + T2.size) := by omega
  have HU2 := Lib.hid hU2
  clear hU2
  obtain ⟨U3, hU3⟩ : ∃ U, U = U2 ++ T3 := ⟨_, rfl⟩
  have u3 : U3.size ≤ U2.size + T3.size := by rw [hU3, app_size]; exact Nat.le_refl _
  have g3 : ¬ (9223372036854775807 < U2.size + T3.size) := by omega
  have HU3 := Lib.hid hU3
  clear hU3
  obtain ⟨U4, hU4⟩ : ∃ U, U = U3 ++ T4 := ⟨_, rfl⟩
  have u4 : U4.size ≤ U3.size + T4.size := by rw [hU4, app_size]; exact Nat.le_refl _
  have g4 : ¬ (9223372036854775807 < U3.size + T4.size) := by omega
  have HU4 := Lib.hid hU4
  clear hU4
  obtain ⟨U5, hU5⟩ : ∃ U, U = U4 ++ T5 := ⟨_, rfl⟩
  have u5 : U5.size ≤ U4.size + T5.size := by rw [hU5, app_size]; exact Nat.le_refl _
  have g5 : ¬ (9223372036854775807 < U4.size + T5.size) := by omega
  have HU5 := Lib.hid hU5
  clear hU5
  obtain ⟨U6, hU6⟩ : ∃ U, U = U5 ++ T6 := ⟨_, rfl⟩
  have u6 : U6.size ≤ U5.size + T6.size := by rw [hU6, app_size]; exact Nat.le_refl _
  have g6 : ¬ (9223372036854775807 < U5.size + T6.size) := by omega
  have HU6 := Lib.hid hU6
  clear hU6
  obtain ⟨U7, hU7⟩ : ∃ U, U = U6 ++ T7 := ⟨_, rfl⟩
  have u7 : U7.size ≤ U6.size + T7.size := by rw [hU7, app_size]; exact Nat.le_refl _
  have g7 : ¬ (9223372036854775807 < U6.size + T7.size) := by omega
  have HU7 := Lib.hid hU7
  clear hU7
  have HH : Hid (U7 = str (headL x)) := Lib.hid (by
    rw [HU7.out, HU6.out, HU5.out, HU4.out, HU3.out, HU2.out, HU1.out, HT0.out, HT1.out, HT2.out, HT3.out, HT4.out, HT5.out, HT6.out, HT7.out, ← HL.out]
    simp only [str_app]
    rfl)
  have hU7s : U7.size ≤ 22 := by rw [HH.out, str_size]; exact headL_len x
  have keep : ∀ w', Below W1.heap.size W1 w' → w'.cell? ⟨w.heap.size, 0, none⟩ = some (.int .i64 x.fr) ∧ w'.cell? ⟨w.heap.size, 1, none⟩ = some (.int .i64 x.tt) ∧ w'.cell? ⟨w.heap.size, 2, none⟩ = some (.int .i64 x.po) ∧ w'.cell? ⟨w.heap.size, 3, none⟩ = some (.int .i64 x.pe) ∧ w'.cell? ⟨w.heap.size, 4, none⟩ = some (.int .i64 x.sq) ∧ w'.cell? ⟨w.heap.size, 5, none⟩ = some (.int .i64 x.ak) ∧ w'.cell? ⟨w.heap.size, 6, none⟩ = some (.int .i64 x.fg) ∧ w'.cell? ⟨w.heap.size, 7, none⟩ = some (.slice A n cp) := fun w' hb =>
    have h1 := X1.out.below hb
    ⟨h1.2 0 _ rfl, h1.2 1 _ rfl, h1.2 2 _ rfl, h1.2 3 _ rfl, h1.2 4 _ rfl, h1.2 5 _ rfl, h1.2 6 _ rfl, h1.2 7 _ rfl⟩
  have HKP := Lib.hid keep
  have B0 := Lib.hid (Below.refl W1.heap.size W1).drew
  clear keep u1 u2 u3 u4 u5 u6 u7 s0 s1 s2 s3 s4 s5 s6 s7
  go_wp2_with fail
  refine wp_region_held_drew (S := fun w' => w'.cell? ⟨w.heap.size, 0, none⟩ = some (.int .i64 x.fr) ∧ w'.cell? ⟨w.heap.size, 1, none⟩ = some (.int .i64 x.tt) ∧ w'.cell? ⟨w.heap.size, 2, none⟩ = some (.int .i64 x.po) ∧ w'.cell? ⟨w.heap.size, 3, none⟩ = some (.int .i64 x.pe) ∧ w'.cell? ⟨w.heap.size, 4, none⟩ = some (.int .i64 x.sq) ∧ w'.cell? ⟨w.heap.size, 5, none⟩ = some (.int .i64 x.ak) ∧ w'.cell? ⟨w.heap.size, 6, none⟩ = some (.int .i64 x.fg) ∧ w'.cell? ⟨w.heap.size, 7, none⟩ = some (.slice A n cp)) (by kernel_rfl) (HKP.out _ B0.out) (fun hHeld => ?_)
  refine wpAnyH_take (i := 0) (oi := ⟨some 9, _, _, _, _, _⟩) (v := ?_) rfl (by kernel_rfl) (by kernel_rfl) (by kernel_rfl) (fun _ _ _ h => h) (Or.inl ⟨by kernel_rfl, ?_⟩) (by assumption) ?_
  rotate_left
  · (intro w hSw; (try dsimp only at hSw); go_simp; try (with_reducible rfl))
  try simp only [Act.put, List.setIfInBounds_toArray, List.set_cons_zero, List.set_cons_succ]
  refine wpAnyH_take (i := 1) (oi := ⟨some 10, _, _, _, _, _⟩) (v := ?_) rfl (by kernel_rfl) (by kernel_rfl) (by kernel_rfl) (fun _ _ _ h => h) (Or.inl ⟨by kernel_rfl, ?_⟩) (by assumption) ?_
  rotate_left
  · (intro w hSw; (try dsimp only at hSw); go_simp; try (with_reducible rfl))
  try simp only [Act.put, List.setIfInBounds_toArray, List.set_cons_zero, List.set_cons_succ]
  refine wpAnyH_take (i := 3) (oi := ⟨some 12, _, _, _, _, _⟩) (v := ?_) rfl (by kernel_rfl) (by kernel_rfl) (by kernel_rfl) (fun _ _ _ h => h) (Or.inl ⟨by kernel_rfl, ?_⟩) (by assumption) ?_
  rotate_left
  · (intro w hSw; (try dsimp only at hSw); go_simp; try (with_reducible rfl))
  try simp only [Act.put, List.setIfInBounds_toArray, List.set_cons_zero, List.set_cons_succ]
  refine wpAnyH_take (i := 4) (oi := ⟨some 13, _, _, _, _, _⟩) (v := ?_) rfl (by kernel_rfl) (by kernel_rfl) (by kernel_rfl) (fun _ _ _ h => h) (Or.inl ⟨by kernel_rfl, ?_⟩) (by assumption) ?_
  rotate_left
  · (intro w hSw; (try dsimp only at hSw); go_simp; try (with_reducible rfl))
  try simp only [Act.put, List.setIfInBounds_toArray, List.set_cons_zero, List.set_cons_succ]
  refine wpAnyH_take (i := 7) (oi := ⟨some 16, _, _, _, _, _⟩) (v := ?_) rfl (by kernel_rfl) (by kernel_rfl) (by kernel_rfl) (fun _ _ _ h => h) (Or.inl ⟨by kernel_rfl, ?_⟩) (by assumption) ?_
  rotate_left
  · (intro w hSw; (try dsimp only at hSw); go_simp; try (with_reducible rfl))
  try simp only [Act.put, List.setIfInBounds_toArray, List.set_cons_zero, List.set_cons_succ]
  refine wpAnyH_take (i := 8) (oi := ⟨some 17, _, _, _, _, _⟩) (v := ?_) rfl (by kernel_rfl) (by kernel_rfl) (by kernel_rfl) (fun _ _ _ h => h) (Or.inl ⟨by kernel_rfl, ?_⟩) (by assumption) ?_
  rotate_left
  · (intro w hSw; (try dsimp only at hSw); go_simp; try (with_reducible rfl))
  try simp only [Act.put, List.setIfInBounds_toArray, List.set_cons_zero, List.set_cons_succ]
  refine wpAnyH_take (i := 11) (oi := ⟨some 20, _, _, _, _, _⟩) (v := ?_) rfl (by kernel_rfl) (by kernel_rfl) (by kernel_rfl) (fun _ _ _ h => h) (Or.inl ⟨by kernel_rfl, ?_⟩) (by assumption) ?_
  rotate_left
  · (intro w hSw; (try dsimp only at hSw); go_simp; try (with_reducible rfl))
  try simp only [Act.put, List.setIfInBounds_toArray, List.set_cons_zero, List.set_cons_succ]
  refine wpAnyH_take (i := 12) (oi := ⟨some 21, _, _, _, _, _⟩) (v := ?_) rfl (by kernel_rfl) (by kernel_rfl) (by kernel_rfl) (fun _ _ _ h => h) (Or.inl ⟨by kernel_rfl, ?_⟩) (by assumption) ?_
  rotate_left
  · (intro w hSw; (try dsimp only at hSw); go_simp; try (with_reducible rfl))
  try simp only [Act.put, List.setIfInBounds_toArray, List.set_cons_zero, List.set_cons_succ]
  refine wpAnyH_take (i := 15) (oi := ⟨some 24, _, _, _, _, _⟩) (v := ?_) rfl (by kernel_rfl) (by kernel_rfl) (by kernel_rfl) (fun _ _ _ h => h) (Or.inl ⟨by kernel_rfl, ?_⟩) (by assumption) ?_
  rotate_left
  · (intro w hSw; (try dsimp only at hSw); go_simp; try (with_reducible rfl))
  try simp only [Act.put, List.setIfInBounds_toArray, List.set_cons_zero, List.set_cons_succ]
  refine wpAnyH_take (i := 16) (oi := ⟨some 25, _, _, _, _, _⟩) (v := ?_) rfl (by kernel_rfl) (by kernel_rfl) (by kernel_rfl) (fun _ _ _ h => h) (Or.inl ⟨by kernel_rfl, ?_⟩) (by assumption) ?_
  rotate_left
  · (intro w hSw; (try dsimp only at hSw); go_simp; try (with_reducible rfl))
  try simp only [Act.put, List.setIfInBounds_toArray, List.set_cons_zero, List.set_cons_succ]
  refine wpAnyH_take (i := 19) (oi := ⟨some 28, _, _, _, _, _⟩) (v := ?_) rfl (by kernel_rfl) (by kernel_rfl) (by kernel_rfl) (fun _ _ _ h => h) (Or.inl ⟨by kernel_rfl, ?_⟩) (by assumption) ?_
  rotate_left
  · (intro w hSw; (try dsimp only at hSw); go_simp; try (with_reducible rfl))
  try simp only [Act.put, List.setIfInBounds_toArray, List.set_cons_zero, List.set_cons_succ]
  refine wpAnyH_take (i := 20) (oi := ⟨some 29, _, _, _, _, _⟩) (v := ?_) rfl (by kernel_rfl) (by kernel_rfl) (by kernel_rfl) (fun _ _ _ h => h) (Or.inl ⟨by kernel_rfl, ?_⟩) (by assumption) ?_
  rotate_left
  · (intro w hSw; (try dsimp only at hSw); go_simp; try (with_reducible rfl))
  try simp only [Act.put, List.setIfInBounds_toArray, List.set_cons_zero, List.set_cons_succ]
  refine wpAnyH_take (i := 23) (oi := ⟨some 32, _, _, _, _, _⟩) (v := ?_) rfl (by kernel_rfl) (by kernel_rfl) (by kernel_rfl) (fun _ _ _ h => h) (Or.inl ⟨by kernel_rfl, ?_⟩) (by assumption) ?_
  rotate_left
  · (intro w hSw; (try dsimp only at hSw); go_simp; try (with_reducible rfl))
  try simp only [Act.put, List.setIfInBounds_toArray, List.set_cons_zero, List.set_cons_succ]
  refine wpAnyH_take (i := 24) (oi := ⟨some 33, _, _, _, _, _⟩) (v := ?_) rfl (by kernel_rfl) (by kernel_rfl) (by kernel_rfl) (fun _ _ _ h => h) (Or.inl ⟨by kernel_rfl, ?_⟩) (by assumption) ?_
  rotate_left
  · (intro w hSw; (try dsimp only at hSw); go_simp; try (with_reducible rfl))
  try simp only [Act.put, List.setIfInBounds_toArray, List.set_cons_zero, List.set_cons_succ]
  refine wpAnyH_take (i := 27) (oi := ⟨some 36, _, _, _, _, _⟩) (v := ?_) rfl (by kernel_rfl) (by kernel_rfl) (by kernel_rfl) (fun _ _ _ h => h) (Or.inl ⟨by kernel_rfl, ?_⟩) (by assumption) ?_
  rotate_left
  · (intro w hSw; (try dsimp only at hSw); go_simp; try (with_reducible rfl))
  try simp only [Act.put, List.setIfInBounds_toArray, List.set_cons_zero, List.set_cons_succ]
  refine wpAnyH_take (i := 28) (oi := ⟨some 37, _, _, _, _, _⟩) (v := ?_) rfl (by kernel_rfl) (by kernel_rfl) (by kernel_rfl) (fun _ _ _ h => h) (Or.inl ⟨by kernel_rfl, ?_⟩) (by assumption) ?_
  rotate_left
  · (intro w hSw; (try dsimp only at hSw); go_simp; try (with_reducible rfl))
  try simp only [Act.put, List.setIfInBounds_toArray, List.set_cons_zero, List.set_cons_succ]
  refine wpAnyH_take (i := 29) (oi := ⟨some 38, _, _, _, _, _⟩) (v := ?_) rfl (by kernel_rfl) (by kernel_rfl) (by kernel_rfl) (fun _ _ _ h => h) (Or.inl ⟨by kernel_rfl, ?_⟩) (by assumption) ?_
  rotate_left
  · (intro w hSw; (try dsimp only at hSw); go_simp; try (with_reducible rfl))
  try simp only [Act.put, List.setIfInBounds_toArray, List.set_cons_zero, List.set_cons_succ]
  refine wpAnyH_ready (rs := [2]) (by kernel_rfl) (by simp) ?_
  refine AllReadyH.cons (o := ⟨some 11, _, _, _, _, _⟩) rfl (fun K hK => ?_) AllReadyH.nil
  go_simp
  (go_at_call 81; refine (numText_i x.fr 4 _ HW.out.1.1.2).mono ?_; rw [← HT0.out]; rintro e V0 ⟨rfl, hb⟩)
  try go_wp2_with fail
  refine hK.out _ _ ?_ (fun hHeld => ?_)
  · exact HKP.out _ (B0.out.trans (hb.mono B0.out.size))
  clear hK K
  try simp only [Act.put, List.setIfInBounds_toArray, List.set_cons_zero, List.set_cons_succ]
  have B1 := Lib.hid (B0.out.trans (hb.mono B0.out.size))
  clear hb B0
  refine wpAnyH_ready (rs := [5]) (by kernel_rfl) (by simp) ?_
  refine AllReadyH.cons (o := ⟨some 14, _, _, _, _, _⟩) rfl (fun K hK => ?_) AllReadyH.nil
  go_simp
  (go_at_call 81; refine (numText_i x.tt 4 _ HW.out.1.2.1.2).mono ?_; rw [← HT1.out]; rintro e V1 ⟨rfl, hb⟩)
  try go_wp2_with fail
  refine hK.out _ _ ?_ (fun hHeld => ?_)
  · exact HKP.out _ (B1.out.trans (hb.mono B1.out.size))
  clear hK K
  try simp only [Act.put, List.setIfInBounds_toArray, List.set_cons_zero, List.set_cons_succ]
  have B2 := Lib.hid (B1.out.trans (hb.mono B1.out.size))
  clear hb B1
  refine wpAnyH_take (i := 6) (oi := ⟨some 15, _, _, _, _, _⟩) (v := ?_) rfl (by kernel_rfl) (by kernel_rfl) (by kernel_rfl) (fun _ _ _ h => h) (Or.inl ⟨by kernel_rfl, ?_⟩) (by assumption) ?_
  rotate_left
  · (intro w hSw; (try dsimp only at hSw); go_simp; try (with_reducible rfl))
  try simp only [Act.put, List.setIfInBounds_toArray, List.set_cons_zero, List.set_cons_succ]
  rw [← HU1.out]
  refine wpAnyH_ready (rs := [9]) (by kernel_rfl) (by simp) ?_
  refine AllReadyH.cons (o := ⟨some 18, _, _, _, _, _⟩) rfl (fun K hK => ?_) AllReadyH.nil
  go_simp
  (go_at_call 81; refine (numText_i x.po 2 _ HW.out.1.2.2.1.2).mono ?_; rw [← HT2.out]; rintro e V2 ⟨rfl, hb⟩)
  try go_wp2_with fail
  refine hK.out _ _ ?_ (fun hHeld => ?_)
  · exact HKP.out _ (B2.out.trans (hb.mono B2.out.size))
  clear hK K
  try simp only [Act.put, List.setIfInBounds_toArray, List.set_cons_zero, List.set_cons_succ]
  have B3 := Lib.hid (B2.out.trans (hb.mono B2.out.size))
  clear hb B2
  refine wpAnyH_take (i := 10) (oi := ⟨some 19, _, _, _, _, _⟩) (v := ?_) rfl (by kernel_rfl) (by kernel_rfl) (by kernel_rfl) (fun _ _ _ h => h) (Or.inl ⟨by kernel_rfl, ?_⟩) (by assumption) ?_
  rotate_left
  · (intro w hSw; (try dsimp only at hSw); go_simp; try (with_reducible rfl))
  try simp only [Act.put, List.setIfInBounds_toArray, List.set_cons_zero, List.set_cons_succ]
  rw [← HU2.out]
  refine wpAnyH_ready (rs := [13]) (by kernel_rfl) (by simp) ?_
  refine AllReadyH.cons (o := ⟨some 22, _, _, _, _, _⟩) rfl (fun K hK => ?_) AllReadyH.nil
  go_simp
  (go_at_call 81; refine (numText_i x.pe 2 _ HW.out.1.2.2.2.1.2).mono ?_; rw [← HT3.out]; rintro e V3 ⟨rfl, hb⟩)
  try go_wp2_with fail
  refine hK.out _ _ ?_ (fun hHeld => ?_)
  · exact HKP.out _ (B3.out.trans (hb.mono B3.out.size))
  clear hK K
  try simp only [Act.put, List.setIfInBounds_toArray, List.set_cons_zero, List.set_cons_succ]
  have B4 := Lib.hid (B3.out.trans (hb.mono B3.out.size))
  clear hb B3
  refine wpAnyH_take (i := 14) (oi := ⟨some 23, _, _, _, _, _⟩) (v := ?_) rfl (by kernel_rfl) (by kernel_rfl) (by kernel_rfl) (fun _ _ _ h => h) (Or.inl ⟨by kernel_rfl, ?_⟩) (by assumption) ?_
  rotate_left
  · (intro w hSw; (try dsimp only at hSw); go_simp; try (with_reducible rfl))
  try simp only [Act.put, List.setIfInBounds_toArray, List.set_cons_zero, List.set_cons_succ]
  rw [← HU3.out]
  refine wpAnyH_ready (rs := [17]) (by kernel_rfl) (by simp) ?_
  refine AllReadyH.cons (o := ⟨some 26, _, _, _, _, _⟩) rfl (fun K hK => ?_) AllReadyH.nil
  go_simp
  (go_at_call 81; refine (numText_i x.sq 4 _ HW.out.1.2.2.2.2.1.2).mono ?_; rw [← HT4.out]; rintro e V4 ⟨rfl, hb⟩)
  try go_wp2_with fail
  refine hK.out _ _ ?_ (fun hHeld => ?_)
  · exact HKP.out _ (B4.out.trans (hb.mono B4.out.size))
  clear hK K
  try simp only [Act.put, List.setIfInBounds_toArray, List.set_cons_zero, List.set_cons_succ]
  have B5 := Lib.hid (B4.out.trans (hb.mono B4.out.size))
  clear hb B4
  refine wpAnyH_take (i := 18) (oi := ⟨some 27, _, _, _, _, _⟩) (v := ?_) rfl (by kernel_rfl) (by kernel_rfl) (by kernel_rfl) (fun _ _ _ h => h) (Or.inl ⟨by kernel_rfl, ?_⟩) (by assumption) ?_
  rotate_left
  · (intro w hSw; (try dsimp only at hSw); go_simp; try (with_reducible rfl))
  try simp only [Act.put, List.setIfInBounds_toArray, List.set_cons_zero, List.set_cons_succ]
  rw [← HU4.out]
  refine wpAnyH_ready (rs := [21]) (by kernel_rfl) (by simp) ?_
  refine AllReadyH.cons (o := ⟨some 30, _, _, _, _, _⟩) rfl (fun K hK => ?_) AllReadyH.nil
  go_simp
  (go_at_call 81; refine (numText_i x.ak 4 _ HW.out.1.2.2.2.2.2.1.2).mono ?_; rw [← HT5.out]; rintro e V5 ⟨rfl, hb⟩)
  try go_wp2_with fail
  refine hK.out _ _ ?_ (fun hHeld => ?_)
  · exact HKP.out _ (B5.out.trans (hb.mono B5.out.size))
  clear hK K
  try simp only [Act.put, List.setIfInBounds_toArray, List.set_cons_zero, List.set_cons_succ]
  have B6 := Lib.hid (B5.out.trans (hb.mono B5.out.size))
  clear hb B5
  refine wpAnyH_take (i := 22) (oi := ⟨some 31, _, _, _, _, _⟩) (v := ?_) rfl (by kernel_rfl) (by kernel_rfl) (by kernel_rfl) (fun _ _ _ h => h) (Or.inl ⟨by kernel_rfl, ?_⟩) (by assumption) ?_
  rotate_left
  · (intro w hSw; (try dsimp only at hSw); go_simp; try (with_reducible rfl))
  try simp only [Act.put, List.setIfInBounds_toArray, List.set_cons_zero, List.set_cons_succ]
  rw [← HU5.out]
  refine wpAnyH_ready (rs := [25]) (by kernel_rfl) (by simp) ?_
  refine AllReadyH.cons (o := ⟨some 34, _, _, _, _, _⟩) rfl (fun K hK => ?_) AllReadyH.nil
  go_simp
  (go_at_call 81; refine (numText_i x.fg 1 _ HW.out.1.2.2.2.2.2.2.2).mono ?_; rw [← HT6.out]; rintro e V6 ⟨rfl, hb⟩)
  try go_wp2_with fail
  refine hK.out _ _ ?_ (fun hHeld => ?_)
  · exact HKP.out _ (B6.out.trans (hb.mono B6.out.size))
  clear hK K
  try simp only [Act.put, List.setIfInBounds_toArray, List.set_cons_zero, List.set_cons_succ]
  have B7 := Lib.hid (B6.out.trans (hb.mono B6.out.size))
  clear hb B6
  refine wpAnyH_take (i := 26) (oi := ⟨some 35, _, _, _, _, _⟩) (v := ?_) rfl (by kernel_rfl) (by kernel_rfl) (by kernel_rfl) (fun _ _ _ h => h) (Or.inl ⟨by kernel_rfl, ?_⟩) (by assumption) ?_
  rotate_left
  · (intro w hSw; (try dsimp only at hSw); go_simp; try (with_reducible rfl))
  try simp only [Act.put, List.setIfInBounds_toArray, List.set_cons_zero, List.set_cons_succ]
  rw [← HU6.out]
  refine wpAnyH_ready (rs := [30]) (by kernel_rfl) (by simp) ?_
  refine AllReadyH.cons (o := ⟨some 39, _, _, _, _, _⟩) rfl (fun K hK => ?_) AllReadyH.nil
  go_simp
  (go_at_call 81; refine (numText_i (n : Int) 1 _ (by omega)).mono ?_; rw [← HT7.out]; rintro e V7 ⟨rfl, hb⟩)
  try go_wp2_with fail
  refine hK.out _ _ ?_ (fun hHeld => ?_)
  · exact HKP.out _ (B7.out.trans (hb.mono B7.out.size))
  clear hK K
  try simp only [Act.put, List.setIfInBounds_toArray, List.set_cons_zero, List.set_cons_succ]
  have B8 := Lib.hid (B7.out.trans (hb.mono B7.out.size))
  clear hb B7
  refine wpAnyH_take (i := 31) (oi := ⟨some 40, _, _, _, _, _⟩) (v := ?_) rfl (by kernel_rfl) (by kernel_rfl) (by kernel_rfl) (fun _ _ _ h => h) (Or.inl ⟨by kernel_rfl, ?_⟩) (by assumption) ?_
  rotate_left
  · (intro w hSw; (try dsimp only at hSw); go_simp; try (with_reducible rfl))
  try simp only [Act.put, List.setIfInBounds_toArray, List.set_cons_zero, List.set_cons_succ]
  rw [← HU7.out]
  refine wpAnyH_take (i := 32) (oi := ⟨some 3, _, _, _, _, _⟩) (v := ?_) rfl (by kernel_rfl) (by kernel_rfl) (by kernel_rfl) (fun _ _ _ h => h) (Or.inl ⟨by kernel_rfl, ?_⟩) (by assumption) ?_
  rotate_left
  · (intro w hSw; (try dsimp only at hSw); go_simp; try (with_reducible rfl))
  try simp only [Act.put, List.setIfInBounds_toArray, List.set_cons_zero, List.set_cons_succ]
  refine wpAnyH_done (by kernel_rfl) ?_ _
  repeat clear hHeld
  have L2 := Lib.hid (L1.out.trans (B8.out.mono L1.out.size))
  have X2 := Lib.hid (X1.out.below B8.out)
  clear B8 L1 X1 HKP g1 g2 g3 g4 g5 g6 g7
  have x7 : V7.cell? ⟨w.heap.size, 7, none⟩ = some (.slice A n cp) := X2.out.2 7 _ rfl
  go_wp2
  clear x7
  go_loopw [3, 44] (fun s i wr => ∃ (k : Nat) (U : ByteArray), k ≤ n ∧ i = .int .i64 (k : Int) ∧ s = .string U ∧ U.size ≤ 22 + 42 * k ∧ Hid (U = str (headL x ++ (x.ops.take k).flatMap optL)) ∧ Hid (Bx wr w.heap.size (vxC x (.slice A n cp))) ∧ Hid (Below w.heap.size w wr)) (fun _ i _ => n - (intOf i).toNat)
  case atStart => exact ⟨0, U7, Nat.zero_le _, rfl, rfl, by omega, Lib.hid (by rw [HH.out]; simp), X2, L2⟩
  case round =>
    clear X2 L2
    obtain ⟨k, U, hk, rfl, rfl, hU, HUU, XW, HN⟩ := hrel
    by_cases hlt : k < n
    · obtain ⟨b1, o1, c1, e0⟩ := H.out.full (by omega)
      simp only [Value.slice.injEq] at e0
      obtain ⟨rfl, _, rfl⟩ := e0
      obtain ⟨o, iv, ho, hiv, hB, hR⟩ := (H.out.below HN.out).at_ hlt
      have XB := Lib.hid hB
      have XR := Lib.hid hR
      have XO := Lib.hid ho
      obtain ⟨A1, cp1, rfl⟩ := RdO.shape1 hR
      have XF := Lib.hid (HW.out.2.2 o (od_in ho))
      have XI := Lib.hid (HI.out o (od_in ho))
      clear hB hR ho hiv
      obtain ⟨T, hT⟩ : ∃ T, T = str (optL o) := ⟨_, rfl⟩
      have hTs : T.size ≤ 42 := by rw [hT, str_size]; exact optL_len o
      have hcat : ¬ (9223372036854775807 < U.size + T.size) := by omega
      have HT := Lib.hid hT
      have HE : Hid (U ++ T = str (headL x ++ (x.ops.take (k + 1)).flatMap optL)) := Lib.hid (by rw [HUU.out, hT, str_app, flat_step XO.out, List.append_assoc])
      have hUT : (U ++ T).size ≤ 22 + 42 * (k + 1) := by rw [app_size]; omega
      clear hT
      go_upto_region 7 with (first | (refine wpl_optA rfl (by rfl) (by rfl) XB.out ?_) | (refine wpl_store_opt rfl (by rfl) (by rfl) (by rfl) ?_))
      obtain ⟨W2, hW2⟩ : ∃ W, W = wr.alloc (.cells (voC o (.slice A1 o.ids.length cp1)).toArray 27) := ⟨_, rfl⟩
      rw [← hW2]
      have BX := Lib.hid (Bx.new wr (voC o (.slice A1 o.ids.length cp1)).toArray 27)
      have B2 := Lib.hid ((Below.refl wr.heap.size wr).alloc (Nat.le_refl _) (.cells (voC o (.slice A1 o.ids.length cp1)).toArray 27))
      rw [← hW2] at BX B2
      clear hW2
      have XR2 := Lib.hid (XR.out.below B2.out)
      have HN2 := Lib.hid (HN.out.trans (B2.out.mono HN.out.size))
      have XW2 := Lib.hid (XW.out.below B2.out)
      go_wp2_with (refine wpl_opt rfl (by rfl) (by rfl) BX.out ?_)
      refine (optText_i o A1 _ cp1 _ XR2.out XI.out XF.out).mono ?_
      rw [← HT.out]
      rintro e w3 ⟨rfl, hb3⟩
      have HN3 := Lib.hid (HN2.out.trans (hb3.mono HN2.out.size))
      have XW3 := Lib.hid (XW2.out.below hb3)
      clear hb3 BX B2 XR2 HN2 XW2 XW
      go_wp2
      go_roundw
      case rel => exact ⟨k + 1, U ++ T, by omega, by go_num, rfl, hUT, HE, XW3, HN3⟩
      case measure => simp [intOf]; omega
    · obtain rfl : k = n := by omega
      obtain ⟨T, hT⟩ : ∃ T, T = str (numTextL (x.da.size : Int) 2) := ⟨_, rfl⟩
      have hTs : T.size ≤ 2 := by rw [hT, str_size]; have := nt_len_le (x.da.size : Int) 2 (by omega); omega
      obtain ⟨UT, hUT⟩ : ∃ V, V = U ++ T := ⟨_, rfl⟩
      have hUTs : UT.size ≤ U.size + T.size := by rw [hUT, app_size]; exact Nat.le_refl _
      have g1 : ¬ (9223372036854775807 < U.size + T.size) := by omega
      have g2 : ¬ (9223372036854775807 < UT.size + x.da.size) := by omega
      have HT := Lib.hid hT
      have HUT := Lib.hid hUT
      have HE : Hid (UT ++ x.da = R) := Lib.hid (by
        rw [HR.out, segL_yes HB.out.symm, hUT, HUU.out, hT, List.take_of_length_le (by have := HL.out; omega)]
        conv => lhs; rw [← str_of x.da]
        rw [str_app, str_app, str_of])
      clear hT hUT hUTs hTs hU
      have keep : ∀ w', Below wr.heap.size wr w' → w'.cell? ⟨w.heap.size, 8, none⟩ = some (.string x.da) ∧ Below wr.heap.size wr w' := fun w' hb => ⟨(XW.out.below hb).2 8 _ rfl, hb⟩
      have HKP := Lib.hid keep
      clear keep
      go_wp2_with fail
      refine wp_region_held_drew (S := fun w' => w'.cell? ⟨w.heap.size, 8, none⟩ = some (.string x.da) ∧ Below wr.heap.size wr w') (by kernel_rfl) (HKP.out _ (Below.refl wr.heap.size wr).drew) (fun hHeld => ?_)
      refine wpAnyH_take (i := 0) (oi := ⟨some 53, _, _, _, _, _⟩) (v := ?_) rfl (by kernel_rfl) (by kernel_rfl) (by kernel_rfl) (fun _ _ _ h => h) (Or.inl ⟨by kernel_rfl, ?_⟩) (by assumption) ?_
      rotate_left
      · (intro w hSw; (try dsimp only at hSw); go_simp; try (with_reducible rfl))
      try simp only [Act.put, List.setIfInBounds_toArray, List.set_cons_zero, List.set_cons_succ]
      refine wpAnyH_take (i := 1) (oi := ⟨some 54, _, _, _, _, _⟩) (v := ?_) rfl (by kernel_rfl) (by kernel_rfl) (by kernel_rfl) (fun _ _ _ h => h) (Or.inl ⟨by kernel_rfl, ?_⟩) (by assumption) ?_
      rotate_left
      · (intro w hSw; (try dsimp only at hSw); go_simp; try (with_reducible rfl))
      try simp only [Act.put, List.setIfInBounds_toArray, List.set_cons_zero, List.set_cons_succ]
      refine wpAnyH_take (i := 2) (oi := ⟨some 55, _, _, _, _, _⟩) (v := ?_) rfl (by kernel_rfl) (by kernel_rfl) (by kernel_rfl) (fun _ _ _ h => h) (Or.inl ⟨by kernel_rfl, ?_⟩) (by assumption) ?_
      rotate_left
      · (intro w hSw; (try dsimp only at hSw); go_simp; try (with_reducible rfl))
      try simp only [Act.put, List.setIfInBounds_toArray, List.set_cons_zero, List.set_cons_succ]
      refine wpAnyH_take (i := 3) (oi := ⟨some 56, _, _, _, _, _⟩) (v := ?_) rfl (by kernel_rfl) (by kernel_rfl) (by kernel_rfl) (fun _ _ _ h => h) (Or.inl ⟨by kernel_rfl, ?_⟩) (by assumption) ?_
      rotate_left
      · (intro w hSw; (try dsimp only at hSw); go_simp; try (with_reducible rfl))
      try simp only [Act.put, List.setIfInBounds_toArray, List.set_cons_zero, List.set_cons_succ]
      refine wpAnyH_take (i := 6) (oi := ⟨some 59, _, _, _, _, _⟩) (v := ?_) rfl (by kernel_rfl) (by kernel_rfl) (by kernel_rfl) (fun _ _ _ h => h) (Or.inl ⟨by kernel_rfl, ?_⟩) (by assumption) ?_
      rotate_left
      · (intro w hSw; (try dsimp only at hSw); go_simp; try (with_reducible rfl))
      try simp only [Act.put, List.setIfInBounds_toArray, List.set_cons_zero, List.set_cons_succ]
      refine wpAnyH_take (i := 7) (oi := ⟨some 60, _, _, _, _, _⟩) (v := ?_) rfl (by kernel_rfl) (by kernel_rfl) (by kernel_rfl) (fun _ _ _ h => h) (Or.inl ⟨by kernel_rfl, ?_⟩) (by assumption) ?_
      rotate_left
      · (intro w hSw; (try dsimp only at hSw); go_simp; try (with_reducible rfl))
      try simp only [Act.put, List.setIfInBounds_toArray, List.set_cons_zero, List.set_cons_succ]
      refine wpAnyH_ready (rs := [4]) (by kernel_rfl) (by simp) ?_
      refine AllReadyH.cons (o := ⟨some 57, _, _, _, _, _⟩) rfl (fun K hK => ?_) AllReadyH.nil
      go_simp
      (go_at_call 81; refine (numText_i (x.da.size : Int) 2 _ (by omega)).mono ?_; rw [← HT.out]; rintro e V9 ⟨rfl, hb⟩)
      try go_wp2_with fail
      refine hK.out _ _ ?_ (fun hHeld => ?_)
      · exact HKP.out _ ((Below.refl wr.heap.size wr).drew.trans hb)
      clear hK K
      try simp only [Act.put, List.setIfInBounds_toArray, List.set_cons_zero, List.set_cons_succ]
      have HN3 := Lib.hid (HN.out.trans (((Below.refl wr.heap.size wr).drew.trans hb).mono HN.out.size))
      clear hb
      refine wpAnyH_take (i := 5) (oi := ⟨some 58, _, _, _, _, _⟩) (v := ?_) rfl (by kernel_rfl) (by kernel_rfl) (by kernel_rfl) (fun _ _ _ h => h) (Or.inl ⟨by kernel_rfl, ?_⟩) (by assumption) ?_
      rotate_left
      · (intro w hSw; (try dsimp only at hSw); go_simp; try (with_reducible rfl))
      try simp only [Act.put, List.setIfInBounds_toArray, List.set_cons_zero, List.set_cons_succ]
      rw [← HUT.out]
      refine wpAnyH_take (i := 8) (oi := ⟨some 61, _, _, _, _, _⟩) (v := ?_) rfl (by kernel_rfl) (by kernel_rfl) (by kernel_rfl) (fun _ _ _ h => h) (Or.inl ⟨by kernel_rfl, ?_⟩) (by assumption) ?_
      rotate_left
      · (intro w hSw; (try dsimp only at hSw); go_simp; try (with_reducible rfl))
      try simp only [Act.put, List.setIfInBounds_toArray, List.set_cons_zero, List.set_cons_succ]
      rw [HE.out]
      refine wpAnyH_take (i := 9) (oi := ⟨some 2, _, _, _, _, _⟩) (v := ?_) rfl (by kernel_rfl) (by kernel_rfl) (by kernel_rfl) (fun _ _ _ h => h) (Or.inl ⟨by kernel_rfl, ?_⟩) (by assumption) ?_
      rotate_left
      · (intro w hSw; (try dsimp only at hSw); go_simp; try (with_reducible rfl))
      try simp only [Act.put, List.setIfInBounds_toArray, List.set_cons_zero, List.set_cons_succ]
      refine wpAnyH_done (by kernel_rfl) ?_ _
      repeat clear hHeld
      go_wp2
      go_ret
      exact ⟨rfl, HN3.out⟩
set_option maxRecDepth 100000 in
set_option maxHeartbeats 6400000 in
theorem segText_s (x : SD) (A : Option Addr) (n cp : Nat) (ivs : List Value) (w : World) (h : RdO w (.slice A n cp) n x.ops ivs) (hwf : x.wf) (hni : ∀ o ∈ x.ops, o.ids.length ≤ 4294967296) :
    Calls Try.prog 46 #[vx x (.slice A n cp)] w fun e w' => e = .returned (.string (str (segL x))) ∧ Below w.heap.size w w' := by
  obtain ⟨R, hR⟩ : ∃ R, R = str (segL x) := ⟨_, rfl⟩
  rw [← hR]
  have HR := Lib.hid hR
  have H := Lib.hid h
  have HW := Lib.hid hwf
  have HI := Lib.hid hni
  have HL := Lib.hid h.lo
  obtain ⟨_, _, e0, hm⟩ := h.shape
  unfold maxLen at hm
  clear hR h hwf hni e0
  go_enter Try.func46, Try.ntmps46
  go_upto_region 1 with (fail)
  obtain ⟨W, hW⟩ : ∃ W, W = w.alloc (.cells (vxC x (.slice A n cp)).toArray 37) := ⟨_, rfl⟩
  change Code.wp _ _ _ _ (w.alloc (.cells (vxC x (.slice A n cp)).toArray 37))
  rw [← hW]
  have L0 := Lib.hid ((Below.refl w.heap.size w).alloc (Nat.le_refl _) (.cells (vxC x (.slice A n cp)).toArray 37))
  have X0 := Lib.hid (Bx.new w (vxC x (.slice A n cp)).toArray 37)
  rw [← hW] at L0 X0
  clear hW
  obtain ⟨b, hb⟩ : ∃ b, b = segOk x := ⟨_, rfl⟩
  have HB := Lib.hid hb
  clear hb
  go_wp2_with (refine wpl_seg rfl (by rfl) (by rfl) X0.out ?_)
  refine (segOk_s x A n cp ivs _ (H.out.below L0.out) HW.out).mono ?_
  rw [← HB.out]
  rintro e W1 ⟨rfl, hb⟩
  have L1 := Lib.hid (L0.out.trans (hb.mono L0.out.size))
  have X1 := Lib.hid (X0.out.below hb)
  clear hb X0 L0
  cases b
  case false =>
    have HN : Hid (R = ⟨#[]⟩) := Lib.hid (by rw [HR.out, segL_no HB.out.symm]; rfl)
    go_wp2
    go_ret
    exact ⟨ret_str HN.out.symm, L1.out⟩
  have hn4 : n ≤ 4 := by have := (segOk_le HB.out.symm).1; have := HL.out; omega
  have hd4 : x.da.size ≤ 120 := (segOk_le HB.out.symm).2
  obtain ⟨T0, hT0⟩ : ∃ T, T = str (numTextL x.fr 4) := ⟨_, rfl⟩
  have s0 : T0.size ≤ 4 := by rw [hT0, str_size]; have := nt_len_le x.fr 4 (by omega); omega
  have HT0 := Lib.hid hT0
  clear hT0
  obtain ⟨T1, hT1⟩ : ∃ T, T = str (numTextL x.tt 4) := ⟨_, rfl⟩
  have s1 : T1.size ≤ 4 := by rw [hT1, str_size]; have := nt_len_le x.tt 4 (by omega); omega
  have HT1 := Lib.hid hT1
  clear hT1
  obtain ⟨T2, hT2⟩ : ∃ T, T = str (numTextL x.po 2) := ⟨_, rfl⟩
  have s2 : T2.size ≤ 2 := by rw [hT2, str_size]; have := nt_len_le x.po 2 (by omega); omega
  have HT2 := Lib.hid hT2
  clear hT2
  obtain ⟨T3, hT3⟩ : ∃ T, T = str (numTextL x.pe 2) := ⟨_, rfl⟩
  have s3 : T3.size ≤ 2 := by rw [hT3, str_size]; have := nt_len_le x.pe 2 (by omega); omega
  have HT3 := Lib.hid hT3
  clear hT3
  obtain ⟨T4, hT4⟩ : ∃ T, T = str (numTextL x.sq 4) := ⟨_, rfl⟩
  have s4 : T4.size ≤ 4 := by rw [hT4, str_size]; have := nt_len_le x.sq 4 (by omega); omega
  have HT4 := Lib.hid hT4
  clear hT4
  obtain ⟨T5, hT5⟩ : ∃ T, T = str (numTextL x.ak 4) := ⟨_, rfl⟩
  have s5 : T5.size ≤ 4 := by rw [hT5, str_size]; have := nt_len_le x.ak 4 (by omega); omega
  have HT5 := Lib.hid hT5
  clear hT5
  obtain ⟨T6, hT6⟩ : ∃ T, T = str (numTextL x.fg 1) := ⟨_, rfl⟩
  have s6 : T6.size ≤ 1 := by rw [hT6, str_size]; have := nt_len_le x.fg 1 (by omega); omega
  have HT6 := Lib.hid hT6
  clear hT6
  obtain ⟨T7, hT7⟩ : ∃ T, T = str (numTextL (n : Int) 1) := ⟨_, rfl⟩
  have s7 : T7.size ≤ 1 := by rw [hT7, str_size]; have := nt_len_le (n : Int) 1 (by omega); omega
  have HT7 := Lib.hid hT7
  clear hT7
  obtain ⟨U1, hU1⟩ : ∃ U, U = T0 ++ T1 := ⟨_, rfl⟩
  have u1 : U1.size ≤ T0.size + T1.size := by rw [hU1, app_size]; exact Nat.le_refl _
  have g1 : ¬ (9223372036854775807 < T0.size + T1.size) := by omega
  have HU1 := Lib.hid hU1
  clear hU1
  obtain ⟨U2, hU2⟩ : ∃ U, U = U1 ++ T2 := ⟨_, rfl⟩
  have u2 : U2.size ≤ U1.size + T2.size := by rw [hU2, app_size]; exact Nat.le_refl _
  have g2 : ¬ (9223372036854775807 < U1.size + T2.size) := by omega
  have HU2 := Lib.hid hU2
  clear hU2
  obtain ⟨U3, hU3⟩ : ∃ U, U = U2 ++ T3 := ⟨_, rfl⟩
  have u3 : U3.size ≤ U2.size + T3.size := by rw [hU3, app_size]; exact Nat.le_refl _
  have g3 : ¬ (9223372036854775807 < U2.size + T3.size) := by omega
  have HU3 := Lib.hid hU3
  clear hU3
  obtain ⟨U4, hU4⟩ : ∃ U, U = U3 ++ T4 := ⟨_, rfl⟩
  have u4 : U4.size ≤ U3.size + T4.size := by rw [hU4, app_size]; exact Nat.le_refl _
  have g4 : ¬ (9223372036854775807 < U3.size + T4.size) := by omega
  have HU4 := Lib.hid hU4
  clear hU4
  obtain ⟨U5, hU5⟩ : ∃ U, U = U4 ++ T5 := ⟨_, rfl⟩
  have u5 : U5.size ≤ U4.size + T5.size := by rw [hU5, app_size]; exact Nat.le_refl _
  have g5 : ¬ (9223372036854775807 < U4.size + T5.size) := by omega
  have HU5 := Lib.hid hU5
  clear hU5
  obtain ⟨U6, hU6⟩ : ∃ U, U = U5 ++ T6 := ⟨_, rfl⟩
  have u6 : U6.size ≤ U5.size + T6.size := by rw [hU6, app_size]; exact Nat.le_refl _
  have g6 : ¬ (9223372036854775807 < U5.size + T6.size) := by omega
  have HU6 := Lib.hid hU6
  clear hU6
  obtain ⟨U7, hU7⟩ : ∃ U, U = U6 ++ T7 := ⟨_, rfl⟩
  have u7 : U7.size ≤ U6.size + T7.size := by rw [hU7, app_size]; exact Nat.le_refl _
  have g7 : ¬ (9223372036854775807 < U6.size + T7.size) := by omega
  have HU7 := Lib.hid hU7
  clear hU7
  have HH : Hid (U7 = str (headL x)) := Lib.hid (by
    rw [HU7.out, HU6.out, HU5.out, HU4.out, HU3.out, HU2.out, HU1.out, HT0.out, HT1.out, HT2.out, HT3.out, HT4.out, HT5.out, HT6.out, HT7.out, ← HL.out]
    simp only [str_app]
    rfl)
  have hU7s : U7.size ≤ 22 := by rw [HH.out, str_size]; exact headL_len x
  have keep : ∀ w', Below W1.heap.size W1 w' → w'.cell? ⟨w.heap.size, 0, none⟩ = some (.int .i64 x.fr) ∧ w'.cell? ⟨w.heap.size, 1, none⟩ = some (.int .i64 x.tt) ∧ w'.cell? ⟨w.heap.size, 2, none⟩ = some (.int .i64 x.po) ∧ w'.cell? ⟨w.heap.size, 3, none⟩ = some (.int .i64 x.pe) ∧ w'.cell? ⟨w.heap.size, 4, none⟩ = some (.int .i64 x.sq) ∧ w'.cell? ⟨w.heap.size, 5, none⟩ = some (.int .i64 x.ak) ∧ w'.cell? ⟨w.heap.size, 6, none⟩ = some (.int .i64 x.fg) ∧ w'.cell? ⟨w.heap.size, 7, none⟩ = some (.slice A n cp) := fun w' hb =>
    have h1 := X1.out.below hb
    ⟨h1.2 0 _ rfl, h1.2 1 _ rfl, h1.2 2 _ rfl, h1.2 3 _ rfl, h1.2 4 _ rfl, h1.2 5 _ rfl, h1.2 6 _ rfl, h1.2 7 _ rfl⟩
  have HKP := Lib.hid keep
  have B0 := Lib.hid (Below.refl W1.heap.size W1).drew
  clear keep u1 u2 u3 u4 u5 u6 u7 s0 s1 s2 s3 s4 s5 s6 s7
  go_wp2_with fail
  refine wp_region_held_drew (S := fun w' => w'.cell? ⟨w.heap.size, 0, none⟩ = some (.int .i64 x.fr) ∧ w'.cell? ⟨w.heap.size, 1, none⟩ = some (.int .i64 x.tt) ∧ w'.cell? ⟨w.heap.size, 2, none⟩ = some (.int .i64 x.po) ∧ w'.cell? ⟨w.heap.size, 3, none⟩ = some (.int .i64 x.pe) ∧ w'.cell? ⟨w.heap.size, 4, none⟩ = some (.int .i64 x.sq) ∧ w'.cell? ⟨w.heap.size, 5, none⟩ = some (.int .i64 x.ak) ∧ w'.cell? ⟨w.heap.size, 6, none⟩ = some (.int .i64 x.fg) ∧ w'.cell? ⟨w.heap.size, 7, none⟩ = some (.slice A n cp)) (by kernel_rfl) (HKP.out _ B0.out) (fun hHeld => ?_)
  refine wpAnyH_take (i := 0) (oi := ⟨some 8, _, _, _, _, _⟩) (v := ?_) rfl (by kernel_rfl) (by kernel_rfl) (by kernel_rfl) (fun _ _ _ h => h) (Or.inl ⟨by kernel_rfl, ?_⟩) (by assumption) ?_
  rotate_left
  · (intro w hSw; (try dsimp only at hSw); go_simp; try (with_reducible rfl))
  try simp only [Act.put, List.setIfInBounds_toArray, List.set_cons_zero, List.set_cons_succ]
  refine wpAnyH_take (i := 1) (oi := ⟨some 9, _, _, _, _, _⟩) (v := ?_) rfl (by kernel_rfl) (by kernel_rfl) (by kernel_rfl) (fun _ _ _ h => h) (Or.inl ⟨by kernel_rfl, ?_⟩) (by assumption) ?_
  rotate_left
  · (intro w hSw; (try dsimp only at hSw); go_simp; try (with_reducible rfl))
  try simp only [Act.put, List.setIfInBounds_toArray, List.set_cons_zero, List.set_cons_succ]
  refine wpAnyH_take (i := 3) (oi := ⟨some 11, _, _, _, _, _⟩) (v := ?_) rfl (by kernel_rfl) (by kernel_rfl) (by kernel_rfl) (fun _ _ _ h => h) (Or.inl ⟨by kernel_rfl, ?_⟩) (by assumption) ?_
  rotate_left
  · (intro w hSw; (try dsimp only at hSw); go_simp; try (with_reducible rfl))
  try simp only [Act.put, List.setIfInBounds_toArray, List.set_cons_zero, List.set_cons_succ]
  refine wpAnyH_take (i := 4) (oi := ⟨some 12, _, _, _, _, _⟩) (v := ?_) rfl (by kernel_rfl) (by kernel_rfl) (by kernel_rfl) (fun _ _ _ h => h) (Or.inl ⟨by kernel_rfl, ?_⟩) (by assumption) ?_
  rotate_left
  · (intro w hSw; (try dsimp only at hSw); go_simp; try (with_reducible rfl))
  try simp only [Act.put, List.setIfInBounds_toArray, List.set_cons_zero, List.set_cons_succ]
  refine wpAnyH_take (i := 7) (oi := ⟨some 15, _, _, _, _, _⟩) (v := ?_) rfl (by kernel_rfl) (by kernel_rfl) (by kernel_rfl) (fun _ _ _ h => h) (Or.inl ⟨by kernel_rfl, ?_⟩) (by assumption) ?_
  rotate_left
  · (intro w hSw; (try dsimp only at hSw); go_simp; try (with_reducible rfl))
  try simp only [Act.put, List.setIfInBounds_toArray, List.set_cons_zero, List.set_cons_succ]
  refine wpAnyH_take (i := 8) (oi := ⟨some 16, _, _, _, _, _⟩) (v := ?_) rfl (by kernel_rfl) (by kernel_rfl) (by kernel_rfl) (fun _ _ _ h => h) (Or.inl ⟨by kernel_rfl, ?_⟩) (by assumption) ?_
  rotate_left
  · (intro w hSw; (try dsimp only at hSw); go_simp; try (with_reducible rfl))
  try simp only [Act.put, List.setIfInBounds_toArray, List.set_cons_zero, List.set_cons_succ]
  refine wpAnyH_take (i := 11) (oi := ⟨some 19, _, _, _, _, _⟩) (v := ?_) rfl (by kernel_rfl) (by kernel_rfl) (by kernel_rfl) (fun _ _ _ h => h) (Or.inl ⟨by kernel_rfl, ?_⟩) (by assumption) ?_
  rotate_left
  · (intro w hSw; (try dsimp only at hSw); go_simp; try (with_reducible rfl))
  try simp only [Act.put, List.setIfInBounds_toArray, List.set_cons_zero, List.set_cons_succ]
  refine wpAnyH_take (i := 12) (oi := ⟨some 20, _, _, _, _, _⟩) (v := ?_) rfl (by kernel_rfl) (by kernel_rfl) (by kernel_rfl) (fun _ _ _ h => h) (Or.inl ⟨by kernel_rfl, ?_⟩) (by assumption) ?_
  rotate_left
  · (intro w hSw; (try dsimp only at hSw); go_simp; try (with_reducible rfl))
  try simp only [Act.put, List.setIfInBounds_toArray, List.set_cons_zero, List.set_cons_succ]
  refine wpAnyH_take (i := 15) (oi := ⟨some 23, _, _, _, _, _⟩) (v := ?_) rfl (by kernel_rfl) (by kernel_rfl) (by kernel_rfl) (fun _ _ _ h => h) (Or.inl ⟨by kernel_rfl, ?_⟩) (by assumption) ?_
  rotate_left
  · (intro w hSw; (try dsimp only at hSw); go_simp; try (with_reducible rfl))
  try simp only [Act.put, List.setIfInBounds_toArray, List.set_cons_zero, List.set_cons_succ]
  refine wpAnyH_take (i := 16) (oi := ⟨some 24, _, _, _, _, _⟩) (v := ?_) rfl (by kernel_rfl) (by kernel_rfl) (by kernel_rfl) (fun _ _ _ h => h) (Or.inl ⟨by kernel_rfl, ?_⟩) (by assumption) ?_
  rotate_left
  · (intro w hSw; (try dsimp only at hSw); go_simp; try (with_reducible rfl))
  try simp only [Act.put, List.setIfInBounds_toArray, List.set_cons_zero, List.set_cons_succ]
  refine wpAnyH_take (i := 19) (oi := ⟨some 27, _, _, _, _, _⟩) (v := ?_) rfl (by kernel_rfl) (by kernel_rfl) (by kernel_rfl) (fun _ _ _ h => h) (Or.inl ⟨by kernel_rfl, ?_⟩) (by assumption) ?_
  rotate_left
  · (intro w hSw; (try dsimp only at hSw); go_simp; try (with_reducible rfl))
  try simp only [Act.put, List.setIfInBounds_toArray, List.set_cons_zero, List.set_cons_succ]
  refine wpAnyH_take (i := 20) (oi := ⟨some 28, _, _, _, _, _⟩) (v := ?_) rfl (by kernel_rfl) (by kernel_rfl) (by kernel_rfl) (fun _ _ _ h => h) (Or.inl ⟨by kernel_rfl, ?_⟩) (by assumption) ?_
  rotate_left
  · (intro w hSw; (try dsimp only at hSw); go_simp; try (with_reducible rfl))
  try simp only [Act.put, List.setIfInBounds_toArray, List.set_cons_zero, List.set_cons_succ]
  refine wpAnyH_take (i := 23) (oi := ⟨some 31, _, _, _, _, _⟩) (v := ?_) rfl (by kernel_rfl) (by kernel_rfl) (by kernel_rfl) (fun _ _ _ h => h) (Or.inl ⟨by kernel_rfl, ?_⟩) (by assumption) ?_
  rotate_left
  · (intro w hSw; (try dsimp only at hSw); go_simp; try (with_reducible rfl))
  try simp only [Act.put, List.setIfInBounds_toArray, List.set_cons_zero, List.set_cons_succ]
  refine wpAnyH_take (i := 24) (oi := ⟨some 32, _, _, _, _, _⟩) (v := ?_) rfl (by kernel_rfl) (by kernel_rfl) (by kernel_rfl) (fun _ _ _ h => h) (Or.inl ⟨by kernel_rfl, ?_⟩) (by assumption) ?_
  rotate_left
  · (intro w hSw; (try dsimp only at hSw); go_simp; try (with_reducible rfl))
  try simp only [Act.put, List.setIfInBounds_toArray, List.set_cons_zero, List.set_cons_succ]
  refine wpAnyH_take (i := 27) (oi := ⟨some 35, _, _, _, _, _⟩) (v := ?_) rfl (by kernel_rfl) (by kernel_rfl) (by kernel_rfl) (fun _ _ _ h => h) (Or.inl ⟨by kernel_rfl, ?_⟩) (by assumption) ?_
  rotate_left
  · (intro w hSw; (try dsimp only at hSw); go_simp; try (with_reducible rfl))
  try simp only [Act.put, List.setIfInBounds_toArray, List.set_cons_zero, List.set_cons_succ]
  refine wpAnyH_take (i := 28) (oi := ⟨some 36, _, _, _, _, _⟩) (v := ?_) rfl (by kernel_rfl) (by kernel_rfl) (by kernel_rfl) (fun _ _ _ h => h) (Or.inl ⟨by kernel_rfl, ?_⟩) (by assumption) ?_
  rotate_left
  · (intro w hSw; (try dsimp only at hSw); go_simp; try (with_reducible rfl))
  try simp only [Act.put, List.setIfInBounds_toArray, List.set_cons_zero, List.set_cons_succ]
  refine wpAnyH_take (i := 29) (oi := ⟨some 37, _, _, _, _, _⟩) (v := ?_) rfl (by kernel_rfl) (by kernel_rfl) (by kernel_rfl) (fun _ _ _ h => h) (Or.inl ⟨by kernel_rfl, ?_⟩) (by assumption) ?_
  rotate_left
  · (intro w hSw; (try dsimp only at hSw); go_simp; try (with_reducible rfl))
  try simp only [Act.put, List.setIfInBounds_toArray, List.set_cons_zero, List.set_cons_succ]
  refine wpAnyH_ready (rs := [2]) (by kernel_rfl) (by simp) ?_
  refine AllReadyH.cons (o := ⟨some 10, _, _, _, _, _⟩) rfl (fun K hK => ?_) AllReadyH.nil
  go_simp
  (go_at_call 74; refine (numText_s x.fr 4 _ HW.out.1.1.2).mono ?_; rw [← HT0.out]; rintro e V0 ⟨rfl, hb⟩)
  try go_wp2_with fail
  refine hK.out _ _ ?_ (fun hHeld => ?_)
  · exact HKP.out _ (B0.out.trans (hb.mono B0.out.size))
  clear hK K
  try simp only [Act.put, List.setIfInBounds_toArray, List.set_cons_zero, List.set_cons_succ]
  have B1 := Lib.hid (B0.out.trans (hb.mono B0.out.size))
  clear hb B0
  refine wpAnyH_ready (rs := [5]) (by kernel_rfl) (by simp) ?_
  refine AllReadyH.cons (o := ⟨some 13, _, _, _, _, _⟩) rfl (fun K hK => ?_) AllReadyH.nil
  go_simp
  (go_at_call 74; refine (numText_s x.tt 4 _ HW.out.1.2.1.2).mono ?_; rw [← HT1.out]; rintro e V1 ⟨rfl, hb⟩)
  try go_wp2_with fail
  refine hK.out _ _ ?_ (fun hHeld => ?_)
  · exact HKP.out _ (B1.out.trans (hb.mono B1.out.size))
  clear hK K
  try simp only [Act.put, List.setIfInBounds_toArray, List.set_cons_zero, List.set_cons_succ]
  have B2 := Lib.hid (B1.out.trans (hb.mono B1.out.size))
  clear hb B1
  refine wpAnyH_take (i := 6) (oi := ⟨some 14, _, _, _, _, _⟩) (v := ?_) rfl (by kernel_rfl) (by kernel_rfl) (by kernel_rfl) (fun _ _ _ h => h) (Or.inl ⟨by kernel_rfl, ?_⟩) (by assumption) ?_
  rotate_left
  · (intro w hSw; (try dsimp only at hSw); go_simp; try (with_reducible rfl))
  try simp only [Act.put, List.setIfInBounds_toArray, List.set_cons_zero, List.set_cons_succ]
  rw [← HU1.out]
  refine wpAnyH_ready (rs := [9]) (by kernel_rfl) (by simp) ?_
  refine AllReadyH.cons (o := ⟨some 17, _, _, _, _, _⟩) rfl (fun K hK => ?_) AllReadyH.nil
  go_simp
  (go_at_call 74; refine (numText_s x.po 2 _ HW.out.1.2.2.1.2).mono ?_; rw [← HT2.out]; rintro e V2 ⟨rfl, hb⟩)
  try go_wp2_with fail
  refine hK.out _ _ ?_ (fun hHeld => ?_)
  · exact HKP.out _ (B2.out.trans (hb.mono B2.out.size))
  clear hK K
  try simp only [Act.put, List.setIfInBounds_toArray, List.set_cons_zero, List.set_cons_succ]
  have B3 := Lib.hid (B2.out.trans (hb.mono B2.out.size))
  clear hb B2
  refine wpAnyH_take (i := 10) (oi := ⟨some 18, _, _, _, _, _⟩) (v := ?_) rfl (by kernel_rfl) (by kernel_rfl) (by kernel_rfl) (fun _ _ _ h => h) (Or.inl ⟨by kernel_rfl, ?_⟩) (by assumption) ?_
  rotate_left
  · (intro w hSw; (try dsimp only at hSw); go_simp; try (with_reducible rfl))
  try simp only [Act.put, List.setIfInBounds_toArray, List.set_cons_zero, List.set_cons_succ]
  rw [← HU2.out]
  refine wpAnyH_ready (rs := [13]) (by kernel_rfl) (by simp) ?_
  refine AllReadyH.cons (o := ⟨some 21, _, _, _, _, _⟩) rfl (fun K hK => ?_) AllReadyH.nil
  go_simp
  (go_at_call 74; refine (numText_s x.pe 2 _ HW.out.1.2.2.2.1.2).mono ?_; rw [← HT3.out]; rintro e V3 ⟨rfl, hb⟩)
  try go_wp2_with fail
  refine hK.out _ _ ?_ (fun hHeld => ?_)
  · exact HKP.out _ (B3.out.trans (hb.mono B3.out.size))
  clear hK K
  try simp only [Act.put, List.setIfInBounds_toArray, List.set_cons_zero, List.set_cons_succ]
  have B4 := Lib.hid (B3.out.trans (hb.mono B3.out.size))
  clear hb B3
  refine wpAnyH_take (i := 14) (oi := ⟨some 22, _, _, _, _, _⟩) (v := ?_) rfl (by kernel_rfl) (by kernel_rfl) (by kernel_rfl) (fun _ _ _ h => h) (Or.inl ⟨by kernel_rfl, ?_⟩) (by assumption) ?_
  rotate_left
  · (intro w hSw; (try dsimp only at hSw); go_simp; try (with_reducible rfl))
  try simp only [Act.put, List.setIfInBounds_toArray, List.set_cons_zero, List.set_cons_succ]
  rw [← HU3.out]
  refine wpAnyH_ready (rs := [17]) (by kernel_rfl) (by simp) ?_
  refine AllReadyH.cons (o := ⟨some 25, _, _, _, _, _⟩) rfl (fun K hK => ?_) AllReadyH.nil
  go_simp
  (go_at_call 74; refine (numText_s x.sq 4 _ HW.out.1.2.2.2.2.1.2).mono ?_; rw [← HT4.out]; rintro e V4 ⟨rfl, hb⟩)
  try go_wp2_with fail
  refine hK.out _ _ ?_ (fun hHeld => ?_)
  · exact HKP.out _ (B4.out.trans (hb.mono B4.out.size))
  clear hK K
  try simp only [Act.put, List.setIfInBounds_toArray, List.set_cons_zero, List.set_cons_succ]
  have B5 := Lib.hid (B4.out.trans (hb.mono B4.out.size))
  clear hb B4
  refine wpAnyH_take (i := 18) (oi := ⟨some 26, _, _, _, _, _⟩) (v := ?_) rfl (by kernel_rfl) (by kernel_rfl) (by kernel_rfl) (fun _ _ _ h => h) (Or.inl ⟨by kernel_rfl, ?_⟩) (by assumption) ?_
  rotate_left
  · (intro w hSw; (try dsimp only at hSw); go_simp; try (with_reducible rfl))
  try simp only [Act.put, List.setIfInBounds_toArray, List.set_cons_zero, List.set_cons_succ]
  rw [← HU4.out]
  refine wpAnyH_ready (rs := [21]) (by kernel_rfl) (by simp) ?_
  refine AllReadyH.cons (o := ⟨some 29, _, _, _, _, _⟩) rfl (fun K hK => ?_) AllReadyH.nil
  go_simp
  (go_at_call 74; refine (numText_s x.ak 4 _ HW.out.1.2.2.2.2.2.1.2).mono ?_; rw [← HT5.out]; rintro e V5 ⟨rfl, hb⟩)
  try go_wp2_with fail
  refine hK.out _ _ ?_ (fun hHeld => ?_)
  · exact HKP.out _ (B5.out.trans (hb.mono B5.out.size))
  clear hK K
  try simp only [Act.put, List.setIfInBounds_toArray, List.set_cons_zero, List.set_cons_succ]
  have B6 := Lib.hid (B5.out.trans (hb.mono B5.out.size))
  clear hb B5
  refine wpAnyH_take (i := 22) (oi := ⟨some 30, _, _, _, _, _⟩) (v := ?_) rfl (by kernel_rfl) (by kernel_rfl) (by kernel_rfl) (fun _ _ _ h => h) (Or.inl ⟨by kernel_rfl, ?_⟩) (by assumption) ?_
  rotate_left
  · (intro w hSw; (try dsimp only at hSw); go_simp; try (with_reducible rfl))
  try simp only [Act.put, List.setIfInBounds_toArray, List.set_cons_zero, List.set_cons_succ]
  rw [← HU5.out]
  refine wpAnyH_ready (rs := [25]) (by kernel_rfl) (by simp) ?_
  refine AllReadyH.cons (o := ⟨some 33, _, _, _, _, _⟩) rfl (fun K hK => ?_) AllReadyH.nil
  go_simp
  (go_at_call 74; refine (numText_s x.fg 1 _ HW.out.1.2.2.2.2.2.2.2).mono ?_; rw [← HT6.out]; rintro e V6 ⟨rfl, hb⟩)
  try go_wp2_with fail
  refine hK.out _ _ ?_ (fun hHeld => ?_)
  · exact HKP.out _ (B6.out.trans (hb.mono B6.out.size))
  clear hK K
  try simp only [Act.put, List.setIfInBounds_toArray, List.set_cons_zero, List.set_cons_succ]
  have B7 := Lib.hid (B6.out.trans (hb.mono B6.out.size))
  clear hb B6
  refine wpAnyH_take (i := 26) (oi := ⟨some 34, _, _, _, _, _⟩) (v := ?_) rfl (by kernel_rfl) (by kernel_rfl) (by kernel_rfl) (fun _ _ _ h => h) (Or.inl ⟨by kernel_rfl, ?_⟩) (by assumption) ?_
  rotate_left
  · (intro w hSw; (try dsimp only at hSw); go_simp; try (with_reducible rfl))
  try simp only [Act.put, List.setIfInBounds_toArray, List.set_cons_zero, List.set_cons_succ]
  rw [← HU6.out]
  refine wpAnyH_ready (rs := [30]) (by kernel_rfl) (by simp) ?_
  refine AllReadyH.cons (o := ⟨some 38, _, _, _, _, _⟩) rfl (fun K hK => ?_) AllReadyH.nil
  go_simp
  (go_at_call 74; refine (numText_s (n : Int) 1 _ (by omega)).mono ?_; rw [← HT7.out]; rintro e V7 ⟨rfl, hb⟩)
  try go_wp2_with fail
  refine hK.out _ _ ?_ (fun hHeld => ?_)
  · exact HKP.out _ (B7.out.trans (hb.mono B7.out.size))
  clear hK K
  try simp only [Act.put, List.setIfInBounds_toArray, List.set_cons_zero, List.set_cons_succ]
  have B8 := Lib.hid (B7.out.trans (hb.mono B7.out.size))
  clear hb B7
  refine wpAnyH_take (i := 31) (oi := ⟨some 39, _, _, _, _, _⟩) (v := ?_) rfl (by kernel_rfl) (by kernel_rfl) (by kernel_rfl) (fun _ _ _ h => h) (Or.inl ⟨by kernel_rfl, ?_⟩) (by assumption) ?_
  rotate_left
  · (intro w hSw; (try dsimp only at hSw); go_simp; try (with_reducible rfl))
  try simp only [Act.put, List.setIfInBounds_toArray, List.set_cons_zero, List.set_cons_succ]
  rw [← HU7.out]
  refine wpAnyH_take (i := 32) (oi := ⟨some 3, _, _, _, _, _⟩) (v := ?_) rfl (by kernel_rfl) (by kernel_rfl) (by kernel_rfl) (fun _ _ _ h => h) (Or.inl ⟨by kernel_rfl, ?_⟩) (by assumption) ?_
  rotate_left
  · (intro w hSw; (try dsimp only at hSw); go_simp; try (with_reducible rfl))
  try simp only [Act.put, List.setIfInBounds_toArray, List.set_cons_zero, List.set_cons_succ]
  refine wpAnyH_done (by kernel_rfl) ?_ _
  repeat clear hHeld
  have L2 := Lib.hid (L1.out.trans (B8.out.mono L1.out.size))
  have X2 := Lib.hid (X1.out.below B8.out)
  clear B8 L1 X1 HKP g1 g2 g3 g4 g5 g6 g7
  go_wp2
  go_loopw [3, 4] (fun s i wr => ∃ (k : Nat) (U : ByteArray), k ≤ n ∧ i = .int .i64 (k : Int) ∧ s = .string U ∧ U.size ≤ 22 + 42 * k ∧ Hid (U = str (headL x ++ (x.ops.take k).flatMap optL)) ∧ Hid (Bx wr w.heap.size (vxC x (.slice A n cp))) ∧ Hid (Below w.heap.size w wr)) (fun _ i _ => n - (intOf i).toNat)
  case atStart => exact ⟨0, U7, Nat.zero_le _, rfl, rfl, by omega, Lib.hid (by rw [HH.out]; simp), X2, L2⟩
  case round =>
    clear X2 L2
    obtain ⟨k, U, hk, rfl, rfl, hU, HUU, XW, HN⟩ := hrel
    have x7 : wr.cell? ⟨w.heap.size, 7, none⟩ = some (.slice A n cp) := XW.out.2 7 _ rfl
    by_cases hlt : k < n
    · obtain ⟨b1, o1, c1, e0⟩ := H.out.full (by omega)
      simp only [Value.slice.injEq] at e0
      obtain ⟨rfl, _, rfl⟩ := e0
      obtain ⟨o, iv, ho, hiv, hB, hR⟩ := (H.out.below HN.out).at_ hlt
      have XB := Lib.hid hB
      have XR := Lib.hid hR
      have XO := Lib.hid ho
      obtain ⟨A1, cp1, rfl⟩ := RdO.shape1 hR
      have XF := Lib.hid (HW.out.2.2 o (od_in ho))
      have XI := Lib.hid (HI.out o (od_in ho))
      clear hB hR ho hiv
      obtain ⟨T, hT⟩ : ∃ T, T = str (optL o) := ⟨_, rfl⟩
      have hTs : T.size ≤ 42 := by rw [hT, str_size]; exact optL_len o
      have hcat : ¬ (9223372036854775807 < U.size + T.size) := by omega
      have HT := Lib.hid hT
      have HE : Hid (U ++ T = str (headL x ++ (x.ops.take (k + 1)).flatMap optL)) := Lib.hid (by rw [HUU.out, hT, str_app, flat_step XO.out, List.append_assoc])
      have hUT : (U ++ T).size ≤ 22 + 42 * (k + 1) := by rw [app_size]; omega
      clear hT
      go_wp2_with (refine wpl_optA rfl (by rfl) (by rfl) XB.out ?_)
      refine (optText_s o A1 _ cp1 _ XR.out XF.out).mono ?_
      rw [← HT.out]
      rintro e w3 ⟨rfl, hb3⟩
      have HN3 := Lib.hid (HN.out.trans (hb3.mono HN.out.size))
      have XW3 := Lib.hid (XW.out.below hb3)
      clear hb3 x7 XW
      go_wp2
      go_roundw
      case rel => exact ⟨k + 1, U ++ T, by omega, by go_num, rfl, hUT, HE, XW3, HN3⟩
      case measure => simp [intOf]; omega
    · obtain rfl : k = n := by omega
      obtain ⟨T, hT⟩ : ∃ T, T = str (numTextL (x.da.size : Int) 2) := ⟨_, rfl⟩
      have hTs : T.size ≤ 2 := by rw [hT, str_size]; have := nt_len_le (x.da.size : Int) 2 (by omega); omega
      obtain ⟨UT, hUT⟩ : ∃ V, V = U ++ T := ⟨_, rfl⟩
      have hUTs : UT.size ≤ U.size + T.size := by rw [hUT, app_size]; exact Nat.le_refl _
      have g1 : ¬ (9223372036854775807 < U.size + T.size) := by omega
      have g2 : ¬ (9223372036854775807 < UT.size + x.da.size) := by omega
      have HT := Lib.hid hT
      have HUT := Lib.hid hUT
      have HE : Hid (UT ++ x.da = R) := Lib.hid (by
        rw [HR.out, segL_yes HB.out.symm, hUT, HUU.out, hT, List.take_of_length_le (by have := HL.out; omega)]
        conv => lhs; rw [← str_of x.da]
        rw [str_app, str_app, str_of])
      clear hT hUT hUTs hTs hU
      have keep : ∀ w', Below wr.heap.size wr w' → w'.cell? ⟨w.heap.size, 8, none⟩ = some (.string x.da) ∧ Below wr.heap.size wr w' := fun w' hb => ⟨(XW.out.below hb).2 8 _ rfl, hb⟩
      have HKP := Lib.hid keep
      clear keep
      go_wp2_with fail
      refine wp_region_held_drew (S := fun w' => w'.cell? ⟨w.heap.size, 8, none⟩ = some (.string x.da) ∧ Below wr.heap.size wr w') (by kernel_rfl) (HKP.out _ (Below.refl wr.heap.size wr).drew) (fun hHeld => ?_)
      refine wpAnyH_take (i := 0) (oi := ⟨some 55, _, _, _, _, _⟩) (v := ?_) rfl (by kernel_rfl) (by kernel_rfl) (by kernel_rfl) (fun _ _ _ h => h) (Or.inl ⟨by kernel_rfl, ?_⟩) (by assumption) ?_
      rotate_left
      · (intro w hSw; (try dsimp only at hSw); go_simp; try (with_reducible rfl))
      try simp only [Act.put, List.setIfInBounds_toArray, List.set_cons_zero, List.set_cons_succ]
      refine wpAnyH_take (i := 1) (oi := ⟨some 56, _, _, _, _, _⟩) (v := ?_) rfl (by kernel_rfl) (by kernel_rfl) (by kernel_rfl) (fun _ _ _ h => h) (Or.inl ⟨by kernel_rfl, ?_⟩) (by assumption) ?_
      rotate_left
      · (intro w hSw; (try dsimp only at hSw); go_simp; try (with_reducible rfl))
      try simp only [Act.put, List.setIfInBounds_toArray, List.set_cons_zero, List.set_cons_succ]
      refine wpAnyH_take (i := 2) (oi := ⟨some 57, _, _, _, _, _⟩) (v := ?_) rfl (by kernel_rfl) (by kernel_rfl) (by kernel_rfl) (fun _ _ _ h => h) (Or.inl ⟨by kernel_rfl, ?_⟩) (by assumption) ?_
      rotate_left
      · (intro w hSw; (try dsimp only at hSw); go_simp; try (with_reducible rfl))
      try simp only [Act.put, List.setIfInBounds_toArray, List.set_cons_zero, List.set_cons_succ]
      refine wpAnyH_take (i := 3) (oi := ⟨some 58, _, _, _, _, _⟩) (v := ?_) rfl (by kernel_rfl) (by kernel_rfl) (by kernel_rfl) (fun _ _ _ h => h) (Or.inl ⟨by kernel_rfl, ?_⟩) (by assumption) ?_
      rotate_left
      · (intro w hSw; (try dsimp only at hSw); go_simp; try (with_reducible rfl))
      try simp only [Act.put, List.setIfInBounds_toArray, List.set_cons_zero, List.set_cons_succ]
      refine wpAnyH_take (i := 6) (oi := ⟨some 61, _, _, _, _, _⟩) (v := ?_) rfl (by kernel_rfl) (by kernel_rfl) (by kernel_rfl) (fun _ _ _ h => h) (Or.inl ⟨by kernel_rfl, ?_⟩) (by assumption) ?_
      rotate_left
      · (intro w hSw; (try dsimp only at hSw); go_simp; try (with_reducible rfl))
      try simp only [Act.put, List.setIfInBounds_toArray, List.set_cons_zero, List.set_cons_succ]
      refine wpAnyH_take (i := 7) (oi := ⟨some 62, _, _, _, _, _⟩) (v := ?_) rfl (by kernel_rfl) (by kernel_rfl) (by kernel_rfl) (fun _ _ _ h => h) (Or.inl ⟨by kernel_rfl, ?_⟩) (by assumption) ?_
      rotate_left
      · (intro w hSw; (try dsimp only at hSw); go_simp; try (with_reducible rfl))
      try simp only [Act.put, List.setIfInBounds_toArray, List.set_cons_zero, List.set_cons_succ]
      refine wpAnyH_ready (rs := [4]) (by kernel_rfl) (by simp) ?_
      refine AllReadyH.cons (o := ⟨some 59, _, _, _, _, _⟩) rfl (fun K hK => ?_) AllReadyH.nil
      go_simp
      (go_at_call 74; refine (numText_s (x.da.size : Int) 2 _ (by omega)).mono ?_; rw [← HT.out]; rintro e V9 ⟨rfl, hb⟩)
      try go_wp2_with fail
      refine hK.out _ _ ?_ (fun hHeld => ?_)
      · exact HKP.out _ ((Below.refl wr.heap.size wr).drew.trans hb)
      clear hK K
      try simp only [Act.put, List.setIfInBounds_toArray, List.set_cons_zero, List.set_cons_succ]
      have HN3 := Lib.hid (HN.out.trans (((Below.refl wr.heap.size wr).drew.trans hb).mono HN.out.size))
      clear hb
      refine wpAnyH_take (i := 5) (oi := ⟨some 60, _, _, _, _, _⟩) (v := ?_) rfl (by kernel_rfl) (by kernel_rfl) (by kernel_rfl) (fun _ _ _ h => h) (Or.inl ⟨by kernel_rfl, ?_⟩) (by assumption) ?_
      rotate_left
      · (intro w hSw; (try dsimp only at hSw); go_simp; try (with_reducible rfl))
      try simp only [Act.put, List.setIfInBounds_toArray, List.set_cons_zero, List.set_cons_succ]
      rw [← HUT.out]
      refine wpAnyH_take (i := 8) (oi := ⟨some 63, _, _, _, _, _⟩) (v := ?_) rfl (by kernel_rfl) (by kernel_rfl) (by kernel_rfl) (fun _ _ _ h => h) (Or.inl ⟨by kernel_rfl, ?_⟩) (by assumption) ?_
      rotate_left
      · (intro w hSw; (try dsimp only at hSw); go_simp; try (with_reducible rfl))
      try simp only [Act.put, List.setIfInBounds_toArray, List.set_cons_zero, List.set_cons_succ]
      rw [HE.out]
      refine wpAnyH_take (i := 9) (oi := ⟨some 2, _, _, _, _, _⟩) (v := ?_) rfl (by kernel_rfl) (by kernel_rfl) (by kernel_rfl) (fun _ _ _ h => h) (Or.inl ⟨by kernel_rfl, ?_⟩) (by assumption) ?_
      rotate_left
      · (intro w hSw; (try dsimp only at hSw); go_simp; try (with_reducible rfl))
      try simp only [Act.put, List.setIfInBounds_toArray, List.set_cons_zero, List.set_cons_succ]
      refine wpAnyH_done (by kernel_rfl) ?_ _
      repeat clear hHeld
      go_wp2
      go_ret
      exact ⟨rfl, HN3.out⟩
end Go.Proofs.Ytkgbkgonlopciaa

/- The walk of OptOk of the program. -/
import Derived.Test.YtkgbkgonlopciaaA15
import Derived.Test.YtkgbkgonlopciaaA2
import Derived.Test.YtkgbkgonlopciaaF4
import Derived.Deep.Cut
import Derived.Outline
import Derived.Deep.QuietTactic
import Derived.BigQuiet
import Derived.Deep.RegionHeld
namespace Go.Proofs.Ytkgbkgonlopciaa
open Go.RowKit
set_option linter.unusedVariables false
set_option linter.unusedSimpArgs false
theorem wf_num {o : OD} (h : o.wf) (i : Nat) : o.num i ≤ 9223372036854775807 := by
  obtain ⟨⟨h0, h1, h2, h3, h4, h5, h6, h7, h8, h9⟩, _⟩ := h
  unfold OD.num
  unfold i64R at *
  split <;> first | omega | (split <;> omega)
theorem wf_txt {o : OD} (h : o.wf) (i : Nat) : (o.txt i).size ≤ 9223372036854775807 := by
  obtain ⟨_, ⟨h1, h2⟩, _⟩ := h
  unfold maxLen at h1 h2
  unfold OD.txt
  split <;> omega
theorem optOk_k {o : OD} (h : ¬ (1 ≤ o.k ∧ o.k ≤ 10)) : optOk o = false := by
  unfold optOk
  by_cases h1 : 1 ≤ o.k
  · have : ¬ o.k ≤ 10 := fun h2 => h ⟨h1, h2⟩
    simp [this]
  · simp [h1]
theorem optOk_s {o : OD} (h : sameOD o (used o) = false) : optOk o = false := by unfold optOk; rw [h]; simp
theorem optOk_8 {o : OD} (hs : sameOD o (used o) = true) (h : o.k = 8) : optOk o = idsOk o.ids := by
  unfold optOk
  rw [hs, h]
  simp [lay]
theorem optOk_n {o : OD} (hk : 1 ≤ o.k ∧ o.k ≤ 10) (hs : sameOD o (used o) = true) (h : o.k ≠ 8) : optOk o = (lay o.k).all (fieldOk o) := by
  unfold optOk
  rw [hs]
  simp [hk.1, hk.2, h]
theorem rising_all {l : List Int} (hr : risingL l = true) (h0 : 0 < l.length) :
    l.all (fun n => decide (0 ≤ n) && decide (n ≤ 255)) = ((decide (0 ≤ l.getD 0 0) && decide (l.getD 0 0 ≤ 255)) && (decide (0 ≤ l.getD (l.length - 1) 0) && decide (l.getD (l.length - 1) 0 ≤ 255))) := by
  have mono : ∀ j i, i ≤ j → j < l.length → l.getD i 0 ≤ l.getD j 0 := by
    intro j
    induction j with
    | zero => intro i hi _; rw [show i = 0 by omega]; exact Int.le_refl _
    | succ j ih =>
      intro i hi hj
      by_cases e : i = j + 1
      · rw [e]; exact Int.le_refl _
      · have h1 := ih i (by omega) (by omega)
        have h2 := risingL_at hr j hj
        omega
  have hmem : ∀ x, x ∈ l ↔ ∃ i, i < l.length ∧ l.getD i 0 = x := by
    intro x
    rw [List.mem_iff_getElem]
    constructor
    · rintro ⟨i, hi, rfl⟩; exact ⟨i, hi, by rw [List.getD_eq_getElem?_getD, List.getElem?_eq_getElem hi]; rfl⟩
    · rintro ⟨i, hi, rfl⟩; exact ⟨i, hi, by rw [List.getD_eq_getElem?_getD, List.getElem?_eq_getElem hi]; rfl⟩
  rw [Bool.eq_iff_iff, List.all_eq_true]
  simp only [Bool.and_eq_true, decide_eq_true_eq]
  constructor
  · intro h
    exact ⟨h _ ((hmem _).2 ⟨0, h0, rfl⟩), h _ ((hmem _).2 ⟨l.length - 1, by omega, rfl⟩)⟩
  · rintro ⟨⟨a, b⟩, c, d⟩ x hx
    obtain ⟨i, hi, rfl⟩ := (hmem x).1 hx
    have e1 := mono i 0 (by omega) hi
    have e2 := mono (l.length - 1) i (by omega) (by omega)
    omega
theorem all_take_lt {α : Type} {l : List α} {p : α → Bool} (h : ∀ j (hj : j < l.length), p l[j] = true) : l.all p = true := by
  rw [List.all_eq_true]
  intro x hx
  obtain ⟨i, hi, rfl⟩ := List.getElem_of_mem hx
  exact h i hi
theorem all_no {α : Type} {l : List α} {p : α → Bool} {j : Nat} (hj : j < l.length) (h : p l[j] = false) : l.all p = false := by
  cases e : l.all p
  · rfl
  · rw [List.all_eq_true] at e
    rw [e _ (List.getElem_mem hj)] at h
    exact h
theorem isE_nt {n wd : Int} : (str (numTextL n wd)).toList.isEmpty = !numTextB n wd := by
  rw [ByteArray.toList_eq, str_toList]
  cases h : numTextB n wd
  · rw [numTextL_no h]; rfl
  · have := numTextL_len h
    obtain ⟨N, W, rfl, rfl, h1, _, _⟩ := numTextB_yes h
    cases hl : numTextL N W with
    | nil => rw [hl] at this; simp at this; omega
    | cons a r => rfl
set_option maxRecDepth 100000 in
set_option maxHeartbeats 6400000 in
theorem optOk_i (o : OD) (A : Option Addr) (n cp : Nat) (w : World) (h : Rd w 1 (.slice A n cp) n (o.ids.map vn)) (hn : n ≤ 4294967296) (hwf : o.wf) :
    Calls Try.prog 36 #[vo o (.slice A n cp)] w fun e w' => e = .returned (.bool (optOk o)) ∧ Below w.heap.size w w' := by
  have HNX := Lib.hid (rd_ids h)
  have H := Lib.hid h
  have HWF := Lib.hid hwf
  clear h hwf
  obtain ⟨r, hr⟩ : ∃ r, r = optOk o := ⟨_, rfl⟩
  rw [← hr]
  have HR := Lib.hid hr
  clear hr
  go_enter Try.func36, Try.ntmps36
  go_upto_region 1 with (fail)
  obtain ⟨W, hW⟩ : ∃ W, W = w.alloc (.cells (voC o (.slice A n cp)).toArray 27) := ⟨_, rfl⟩
  change Code.wp _ _ _ _ (w.alloc (.cells (voC o (.slice A n cp)).toArray 27))
  rw [← hW]
  have L0 := Lib.hid ((Below.refl w.heap.size w).alloc (Nat.le_refl _) (.cells (voC o (.slice A n cp)).toArray 27))
  have X1 := Lib.hid (Bx.new w (voC o (.slice A n cp)).toArray 27)
  rw [← hW] at L0 X1
  clear hW
  have x0 : W.cell? ⟨w.heap.size, 0, none⟩ = some (.int .i64 o.k) := X1.out.2 0 _ rfl
  have HW := Lib.hid (H.out.below L0.out)
  by_cases ck : 1 ≤ o.k ∧ o.k ≤ 10
  case neg =>
    have CK : Hid ((decide (1 ≤ o.k) && decide (o.k ≤ 10)) = false) := Lib.hid (by simpa using ck)
    have HB : Hid (r = false) := Lib.hid (HR.out.trans (optOk_k ck))
    clear ck
    refine wp_region_held_drew (S := fun w' => w'.cell? ⟨w.heap.size, 0, none⟩ = some (.int .i64 o.k)) (by kernel_rfl) x0 (fun hHeld => ?_)
    refine wpAnyH_take (i := 0) (v := ?_) rfl (by kernel_rfl) (by kernel_rfl) (by kernel_rfl) (fun _ _ _ h => h) (Or.inl ⟨by rfl, ?_⟩) (by assumption) ?_
    rotate_left
    · (intro w hSw; (try dsimp only at hSw); go_simp; try (with_reducible rfl))
    try simp only [Act.put, List.setIfInBounds_toArray, List.set_cons_zero, List.set_cons_succ]
    refine wpAnyH_take (i := 1) (v := ?_) rfl (by kernel_rfl) (by kernel_rfl) (by kernel_rfl) (fun _ _ _ h => h) (Or.inl ⟨by rfl, ?_⟩) (by assumption) ?_
    rotate_left
    · (intro w hSw; (try dsimp only at hSw); go_simp; try (with_reducible rfl))
    try simp only [Act.put, List.setIfInBounds_toArray, List.set_cons_zero, List.set_cons_succ]
    refine wpAnyH_ready (rs := [2]) (by kernel_rfl) (by simp) ?_
    refine AllReadyH.cons rfl (fun K hK => ?_) AllReadyH.nil
    go_simp
    (go_at_call 76; refine (within_i o.k 1 10 _).mono ?_; rw [CK.out]; rintro e w2 ⟨rfl, rfl⟩)
    try go_wp2_with fail
    refine hK.out _ _ ?_ (fun hHeld => ?_)
    · assumption
    clear hK K
    try simp only [Act.put, List.setIfInBounds_toArray, List.set_cons_zero, List.set_cons_succ]
    refine wpAnyH_take (i := 3) (v := ?_) rfl (by kernel_rfl) (by kernel_rfl) (by kernel_rfl) (fun _ _ _ h => h) (Or.inl ⟨by kernel_rfl, ?_⟩) (by assumption) ?_
    rotate_left
    · (intro w hSw; (try dsimp only at hSw); go_simp; try (with_reducible rfl))
    try simp only [Act.put, List.setIfInBounds_toArray, List.set_cons_zero, List.set_cons_succ]
    refine wpAnyH_take (i := 4) (v := ?_) rfl (by kernel_rfl) (by kernel_rfl) (by kernel_rfl) (fun _ _ _ h => h) (Or.inl ⟨by kernel_rfl, ?_⟩) (by assumption) ?_
    rotate_left
    · (intro w hSw; (try dsimp only at hSw); go_simp; try (with_reducible rfl))
    try simp only [Act.put, List.setIfInBounds_toArray, List.set_cons_zero, List.set_cons_succ]
    refine wpAnyH_take (i := 5) (v := undef) rfl (by kernel_rfl) (by kernel_rfl) (by kernel_rfl) (fun _ _ _ h => h) (Or.inr ⟨by kernel_rfl, rfl⟩) (by assumption) ?_
    try simp only [Act.put, List.setIfInBounds_toArray, List.set_cons_zero, List.set_cons_succ]
    refine wpAnyH_take (i := 6) (v := undef) rfl (by kernel_rfl) (by kernel_rfl) (by kernel_rfl) (fun _ _ _ h => h) (Or.inr ⟨by kernel_rfl, rfl⟩) (by assumption) ?_
    try simp only [Act.put, List.setIfInBounds_toArray, List.set_cons_zero, List.set_cons_succ]
    refine wpAnyH_take (i := 7) (v := undef) rfl (by kernel_rfl) (by kernel_rfl) (by kernel_rfl) (fun _ _ _ h => h) (Or.inr ⟨by kernel_rfl, rfl⟩) (by assumption) ?_
    try simp only [Act.put, List.setIfInBounds_toArray, List.set_cons_zero, List.set_cons_succ]
    refine wpAnyH_take (i := 8) (v := undef) rfl (by kernel_rfl) (by kernel_rfl) (by kernel_rfl) (fun _ _ _ h => h) (Or.inr ⟨by kernel_rfl, rfl⟩) (by assumption) ?_
    try simp only [Act.put, List.setIfInBounds_toArray, List.set_cons_zero, List.set_cons_succ]
    refine wpAnyH_take (i := 9) (v := undef) rfl (by kernel_rfl) (by kernel_rfl) (by kernel_rfl) (fun _ _ _ h => h) (Or.inr ⟨by kernel_rfl, rfl⟩) (by assumption) ?_
    try simp only [Act.put, List.setIfInBounds_toArray, List.set_cons_zero, List.set_cons_succ]
    refine wpAnyH_take (i := 10) (v := ?_) rfl (by kernel_rfl) (by kernel_rfl) (by kernel_rfl) (fun _ _ _ h => h) (Or.inl ⟨by kernel_rfl, ?_⟩) (by assumption) ?_
    rotate_left
    · (intro w hSw; (try dsimp only at hSw); go_simp; try (with_reducible rfl))
    try simp only [Act.put, List.setIfInBounds_toArray, List.set_cons_zero, List.set_cons_succ]
    refine wpAnyH_done (by kernel_rfl) ?_ _
    clear x0
    repeat clear hHeld
    go_wp2
    go_ret
    exact ⟨ret_bool HB.out.symm, L0.out.drew⟩
  have CK : Hid ((decide (1 ≤ o.k) && decide (o.k ≤ 10)) = true) := Lib.hid (by simpa using ck)
  have HCK := Lib.hid ck
  clear ck
  obtain ⟨s, hs⟩ : ∃ s, s = sameOD o (used o) := ⟨_, rfl⟩
  have HS := Lib.hid hs
  clear hs
  refine wp_region_held_drew (S := fun w' => w'.cell? ⟨w.heap.size, 0, none⟩ = some (.int .i64 o.k) ∧ Bx w' w.heap.size (voC o (.slice A n cp)) ∧ Below W.heap.size W w') (by kernel_rfl) ⟨x0, X1.out.drew, (Below.refl _ W).drew⟩ (fun hHeld => ?_)
  refine wpAnyH_take (i := 0) (v := ?_) rfl (by kernel_rfl) (by kernel_rfl) (by kernel_rfl) (fun _ _ _ h => h) (Or.inl ⟨by rfl, ?_⟩) (by assumption) ?_
  rotate_left
  · (intro w hSw; (try dsimp only at hSw); go_simp; try (with_reducible rfl))
  try simp only [Act.put, List.setIfInBounds_toArray, List.set_cons_zero, List.set_cons_succ]
  refine wpAnyH_take (i := 1) (v := ?_) rfl (by kernel_rfl) (by kernel_rfl) (by kernel_rfl) (fun _ _ _ h => h) (Or.inl ⟨by rfl, ?_⟩) (by assumption) ?_
  rotate_left
  · (intro w hSw; (try dsimp only at hSw); go_simp; try (with_reducible rfl))
  try simp only [Act.put, List.setIfInBounds_toArray, List.set_cons_zero, List.set_cons_succ]
  refine wpAnyH_ready (rs := [2]) (by kernel_rfl) (by simp) ?_
  refine AllReadyH.cons rfl (fun K hK => ?_) AllReadyH.nil
  go_simp
  (go_at_call 76; refine (within_i o.k 1 10 _).mono ?_; rw [CK.out]; rintro e w2 ⟨rfl, rfl⟩)
  try go_wp2_with fail
  refine hK.out _ _ ?_ (fun hHeld => ?_)
  · assumption
  clear hK K
  try simp only [Act.put, List.setIfInBounds_toArray, List.set_cons_zero, List.set_cons_succ]
  refine wpAnyH_take (i := 3) (v := ?_) rfl (by kernel_rfl) (by kernel_rfl) (by kernel_rfl) (fun _ _ _ h => h) (Or.inl ⟨by kernel_rfl, ?_⟩) (by assumption) ?_
  rotate_left
  · (intro w hSw; (try dsimp only at hSw); go_simp; try (with_reducible rfl))
  try simp only [Act.put, List.setIfInBounds_toArray, List.set_cons_zero, List.set_cons_succ]
  refine wpAnyH_take (i := 4) (v := ?_) rfl (by kernel_rfl) (by kernel_rfl) (by kernel_rfl) (fun _ _ _ h => h) (Or.inl ⟨by kernel_rfl, ?_⟩) (by assumption) ?_
  rotate_left
  · (intro w hSw; (try dsimp only at hSw); go_simp; try (with_reducible rfl))
  try simp only [Act.put, List.setIfInBounds_toArray, List.set_cons_zero, List.set_cons_succ]
  refine wpAnyH_take (i := 5) rfl (by kernel_rfl) (by kernel_rfl) (by kernel_rfl) (fun _ _ _ h => h) (yields_opt (by kernel_rfl) rfl (by rfl) (fun w h => h.2.1)) (by assumption) ?_
  try simp only [Act.put, List.setIfInBounds_toArray, List.set_cons_zero, List.set_cons_succ]
  refine wpAnyH_take (i := 6) rfl (by kernel_rfl) (by kernel_rfl) (by kernel_rfl) (fun _ _ _ h => h) (yields_opt (by kernel_rfl) rfl (by rfl) (fun w h => h.2.1)) (by assumption) ?_
  try simp only [Act.put, List.setIfInBounds_toArray, List.set_cons_zero, List.set_cons_succ]
  refine wpAnyH_ready (rs := [7]) (by kernel_rfl) (by simp) ?_
  refine AllReadyH.cons rfl (fun K hK => ?_) AllReadyH.nil
  go_simp
  (go_at_call 77; refine (used_i o A n cp _ (H.out.below L0.out.drew) hn).mono ?_; rintro e w2 ⟨iv2, rfl, ho2, hb2⟩)
  try go_wp2_with fail
  refine hK.out _ _ ?_ (fun hHeld => ?_)
  · exact ⟨(hb2.cell (p := ⟨w.heap.size, 0, none⟩) X1.out.1).trans x0, X1.out.drew.below hb2, (Below.refl _ W).drew.trans hb2⟩
  clear hK K
  try simp only [Act.put, List.setIfInBounds_toArray, List.set_cons_zero, List.set_cons_succ]
  have B2 := Lib.hid ((Below.refl W.heap.size W).drew.trans hb2)
  have O2 := Lib.hid ho2
  have X2 := Lib.hid (X1.out.below B2.out)
  have H2 := Lib.hid (HW.out.below B2.out)
  clear ho2 hb2
  refine wpAnyH_ready (rs := [8]) (by kernel_rfl) (by simp) ?_
  refine AllReadyH.cons rfl (fun K hK => ?_) AllReadyH.nil
  go_simp
  (go_at_call 19; refine (sameOpt_i o (used o) _ _ _ _ _ H2.out O2.out.rd).mono ?_; rw [← HS.out]; rintro e w3 ⟨rfl, hb3⟩)
  try go_wp2_with fail
  refine hK.out _ _ ?_ (fun hHeld => ?_)
  · exact ⟨(X2.out.below hb3).2 0 _ rfl, X2.out.below hb3, B2.out.trans (hb3.mono B2.out.size)⟩
  clear hK K
  try simp only [Act.put, List.setIfInBounds_toArray, List.set_cons_zero, List.set_cons_succ]
  have B3 := Lib.hid (B2.out.trans (hb3.mono B2.out.size))
  clear hb3
  refine wpAnyH_take (i := 9) (v := ?_) rfl (by kernel_rfl) (by kernel_rfl) (by kernel_rfl) (fun _ _ _ h => h) (Or.inl ⟨by kernel_rfl, ?_⟩) (by assumption) ?_
  rotate_left
  · (intro w hSw; (try dsimp only at hSw); go_simp; try (with_reducible rfl))
  try simp only [Act.put, List.setIfInBounds_toArray, List.set_cons_zero, List.set_cons_succ]
  refine wpAnyH_take (i := 10) (v := ?_) rfl (by kernel_rfl) (by kernel_rfl) (by kernel_rfl) (fun _ _ _ h => h) (Or.inl ⟨by kernel_rfl, ?_⟩) (by assumption) ?_
  rotate_left
  · (intro w hSw; (try dsimp only at hSw); go_simp; try (with_reducible rfl))
  try simp only [Act.put, List.setIfInBounds_toArray, List.set_cons_zero, List.set_cons_succ]
  refine wpAnyH_done (by kernel_rfl) ?_ _
  clear x0
  repeat clear hHeld
  have L3 := Lib.hid (L0.out.trans (B3.out.mono L0.out.size))
  have X3 := Lib.hid (X1.out.below B3.out)
  clear X1 X2 H2 O2 B2
  cases s
  case false =>
    have HB : Hid (r = false) := Lib.hid (HR.out.trans (optOk_s HS.out.symm))
    go_wp2
    go_ret
    exact ⟨ret_bool HB.out.symm, L3.out⟩
  have x0 : w3.cell? ⟨w.heap.size, 0, none⟩ = some (.int .i64 o.k) := X3.out.2 0 _ rfl
  have x13 : w3.cell? ⟨w.heap.size, 13, none⟩ = some (.slice A n cp) := X3.out.2 13 _ rfl
  by_cases h8 : o.k = 8
  · have q1 : (o.k == 8) = true := by simp [h8]
    have HE : Hid (r = idsOk o.ids) := Lib.hid (HR.out.trans (optOk_8 HS.out.symm h8))
    clear h8
    by_cases c1 : 1 ≤ n ∧ n ≤ 8
    case neg =>
      have C1 : Hid ((decide (1 ≤ (n : Int)) && decide ((n : Int) ≤ 8)) = false) := Lib.hid (by
        by_cases e : 1 ≤ n
        · have : ¬ n ≤ 8 := fun e2 => c1 ⟨e, e2⟩
          have e3 : ¬ (n : Int) ≤ 8 := by omega
          simp [e3]
        · have e3 : ¬ 1 ≤ (n : Int) := by omega
          simp [e3])
      have HB : Hid (r = false) := Lib.hid (HE.out.trans (by
        unfold idsOk
        rw [← HNX.out]
        by_cases e : 1 ≤ n
        · have : ¬ n ≤ 8 := fun e2 => c1 ⟨e, e2⟩
          simp [this]
        · simp [e]))
      clear c1
      go_wp2_with fail
      refine (within_i (n : Int) 1 8 _).mono ?_
      rw [C1.out]
      rintro e w4 ⟨rfl, rfl⟩
      go_wp2
      go_ret
      exact ⟨ret_bool HB.out.symm, L3.out⟩
    have C1 : Hid ((decide (1 ≤ (n : Int)) && decide ((n : Int) ≤ 8)) = true) := Lib.hid (by
      have e1 : 1 ≤ (n : Int) := by omega
      have e2 : (n : Int) ≤ 8 := by omega
      simp [e1, e2])
    go_wp2_with fail
    refine (within_i (n : Int) 1 8 _).mono ?_
    rw [C1.out]
    rintro e w4 ⟨rfl, rfl⟩
    have H3 := Lib.hid (H.out.below L3.out)
    go_wp2_with fail
    refine (rising_i _ n o.ids _ H3.out).mono ?_
    rintro e w4 ⟨rfl, hb4⟩
    have L4 := Lib.hid (L3.out.trans (hb4.mono L3.out.size))
    have X4 := Lib.hid (X3.out.below hb4)
    have H4 := Lib.hid (H3.out.below hb4)
    clear hb4 x0 x13
    obtain ⟨rb, hrb⟩ : ∃ rb, rb = risingL o.ids := ⟨_, rfl⟩
    rw [← hrb]
    have HRB := Lib.hid hrb
    clear hrb
    cases rb
    case false =>
      have HB : Hid (r = false) := Lib.hid (HE.out.trans (by unfold idsOk; rw [← HRB.out]; simp))
      go_wp2
      go_ret
      exact ⟨ret_bool HB.out.symm, L4.out⟩
    have HF : Hid (r = ((decide (0 ≤ o.ids.getD 0 0) && decide (o.ids.getD 0 0 ≤ 255)) && (decide (0 ≤ o.ids.getD (n - 1) 0) && decide (o.ids.getD (n - 1) 0 ≤ 255)))) := Lib.hid (by
      rw [HE.out]
      unfold idsOk
      rw [rising_all HRB.out.symm (by have := HNX.out; omega), ← HRB.out, ← HNX.out]
      simp [c1.1, c1.2])
    obtain ⟨b1, o1, _, he, _, _, _⟩ := H.out.full (by omega)
    simp only [Value.slice.injEq] at he
    obtain ⟨rfl, _, rfl⟩ := he
    obtain ⟨_, p0⟩ := H4.out.at1 (show 0 < n by omega)
    obtain ⟨_, p1⟩ := H4.out.at1 (show n - 1 < n by omega)
    rw [Nat.add_zero] at p0
    obtain ⟨x, hx⟩ : ∃ x, x = o.ids.getD 0 0 := ⟨_, rfl⟩
    obtain ⟨y, hy⟩ : ∃ x, x = o.ids.getD (n - 1) 0 := ⟨_, rfl⟩
    rw [← hx] at p0
    rw [← hy] at p1
    rw [← hx, ← hy] at HF
    obtain ⟨n1, hn1⟩ : ∃ n1, n1 = n - 1 := ⟨_, rfl⟩
    rw [← hn1] at p1
    have e1 : (n : Int) - 1 = (n1 : Int) := by omega
    have e2 : n1 < n := by omega
    have e0 : 0 < n := by omega
    have x13 : w4.cell? ⟨w.heap.size, 13, none⟩ = some (.slice (some ⟨b1, o1, none⟩) n cp) := X4.out.2 13 _ rfl
    clear hx hy hn1 c1
    by_cases cx : 0 ≤ x ∧ x ≤ 255
    case neg =>
      have CX : Hid ((decide (0 ≤ x) && decide (x ≤ 255)) = false) := Lib.hid (by simpa using cx)
      have HB : Hid (r = false) := Lib.hid (by rw [HF.out, CX.out]; rfl)
      clear cx
      go_wp2_with fail
      refine (within_i x 0 255 _).mono ?_
      rw [CX.out]
      rintro e w5 ⟨rfl, rfl⟩
      go_wp2
      go_ret
      exact ⟨ret_bool HB.out.symm, L4.out⟩
    have CX : Hid ((decide (0 ≤ x) && decide (x ≤ 255)) = true) := Lib.hid (by simpa using cx)
    obtain ⟨yb, hyb⟩ : ∃ yb, yb = (decide (0 ≤ y) && decide (y ≤ 255)) := ⟨_, rfl⟩
    have HB : Hid (r = yb) := Lib.hid (by rw [HF.out, CX.out, hyb]; rfl)
    have HY := Lib.hid hyb
    clear cx hyb
    go_wp2_with fail
    refine (within_i x 0 255 _).mono ?_
    rw [CX.out]
    rintro e w5 ⟨rfl, rfl⟩
    go_wp2_with fail
    refine (within_i y 0 255 _).mono ?_
    rw [← HY.out]
    rintro e w5 ⟨rfl, rfl⟩
    go_wp2
    go_ret
    exact ⟨ret_bool HB.out.symm, L4.out⟩
  · have q1 : (o.k == 8) = false := by simp [h8]
    have HE : Hid (r = (lay o.k).all (fieldOk o)) := Lib.hid (HR.out.trans (optOk_n HCK.out HS.out.symm h8))
    clear h8
    go_wp2_with fail
    refine (layoutOf_i o.k _).mono ?_
    rintro e w4 ⟨v4, rfl, ho4, hb4⟩
    have O4 := Lib.hid ho4
    have X4 := Lib.hid (X3.out.below hb4)
    have L4 := Lib.hid (L3.out.trans (hb4.mono L3.out.size))
    obtain ⟨A4, c4, rfl⟩ := ho4.shape
    obtain ⟨m, hm⟩ : ∃ m, m = (lay o.k).length := ⟨_, rfl⟩
    have hm4 : m ≤ 4 := by
      rw [hm]; unfold lay
      repeat' split
      all_goals simp
    rw [← hm] at O4 ⊢
    have HMM := Lib.hid hm
    clear ho4 hb4 x0 x13 hm
    go_wp2
    go_loopw [50] (fun i wr => ∃ j : Nat, j ≤ m ∧ i = .int .i64 (j : Int) ∧ Hid (∀ j' (hj : j' < (lay o.k).length), j' < j → fieldOk o ((lay o.k)[j']'hj) = true) ∧ Hid (Bx wr w.heap.size (voC o (.slice A n cp))) ∧ Hid (Below w.heap.size w wr) ∧
      Hid (Obs wr w3.heap.size 2 (.slice A4 m c4) m (fsC (lay o.k)))) (fun i _ => m - (intOf i).toNat)
    case atStart => exact ⟨0, Nat.zero_le _, rfl, Lib.hid (fun j' _ h => by omega), X4, L4, O4⟩
    case round =>
      clear X4 L4 O4
      obtain ⟨j, hj, rfl, HP, V1, LW, O4⟩ := hrel
      by_cases hlt : j < m
      case neg =>
        obtain rfl : j = m := by omega
        have HB : Hid (r = true) := Lib.hid (HE.out.trans (all_take_lt (fun j' hj' => HP.out j' hj' (by have := HMM.out; omega))))
        go_wp2
        go_ret
        exact ⟨ret_bool HB.out.symm, LW.out⟩
      have hfl : j < (lay o.k).length := by have := HMM.out; omega
      obtain ⟨i1, i12, w1, w20⟩ := lay_at hfl
      obtain ⟨f0, f1⟩ := fsC_at hfl
      have HNO : Hid (fieldOk o ((lay o.k)[j]'hfl) = false → r = false) := Lib.hid (fun h => HE.out.trans (all_no hfl h))
      have HYES : Hid (fieldOk o ((lay o.k)[j]'hfl) = true → ∀ j' (hj : j' < (lay o.k).length), j' < j + 1 → fieldOk o ((lay o.k)[j']'hj) = true) := Lib.hid (fun h j' hj' hlt' => by
        by_cases e : j' = j
        · subst e; exact h
        · exact HP.out j' hj' (by omega))
      obtain ⟨⟨i, m2⟩, hf⟩ : ∃ f, f = (lay o.k)[j]'hfl := ⟨_, rfl⟩
      rw [← hf] at i1 i12 w1 w20 f0 f1 HNO HYES
      dsimp only at i1 i12 w1 w20 f0 f1
      clear hf hfl
      obtain ⟨g4, cc4, he⟩ := O4.out.full (by omega)
      simp only [Value.slice.injEq] at he
      obtain ⟨rfl, _, rfl⟩ := he
      have p0 := (O4.out.cellAt f0).1
      have p1 := (O4.out.cellAt f1).1
      clear f0 f1
      go_upto_region 10 with (fail)
      obtain ⟨W2, hW2⟩ : ∃ W2, W2 = wr.alloc (.cells #[.string (nm i), .int .i64 (m2 : Int)] 88) := ⟨_, rfl⟩
      rw [← hW2]
      have Z1 : Hid (Bx W2 w.heap.size (voC o (.slice A n cp))) := Lib.hid (by rw [hW2]; exact V1.out.alloc _)
      have LZ : Hid (Below w.heap.size w W2) := Lib.hid (by rw [hW2]; exact LW.out.alloc LW.out.size _)
      have OZ : Hid (Obs W2 w3.heap.size 2 (.slice (some ⟨g4, 0, none⟩) m c4) m (fsC (lay o.k))) := Lib.hid (by rw [hW2]; exact O4.out.alloc _)
      have n0 : W2.cell? ⟨wr.heap.size, 0, none⟩ = some (.string (nm i)) := by rw [hW2]; exact (Blk.new wr 88 #[.string (nm i), .int .i64 (m2 : Int)]).cell 0
      have n1 : W2.cell? ⟨wr.heap.size, 1, none⟩ = some (.int .i64 (m2 : Int)) := by rw [hW2]; exact (Blk.new wr 88 #[.string (nm i), .int .i64 (m2 : Int)]).cell 1
      have gws : wr.heap.size < W2.heap.size := by rw [hW2]; simp
      have gw0 := Z1.out.1
      clear hW2 p0 p1 V1 LW O4
      by_cases c10 : i = 10
      · subst c10
        have q1 : ((nm 10).toList == [102, 108, 97, 103]) = true := by rw [ByteArray.toList_eq]; decide
        have HP2 := Lib.hid (HYES.out rfl)
        clear HYES HNO
        go_wp2
        go_roundw
        case rel => exact ⟨j + 1, by omega, by go_num, HP2, Z1, LZ, OZ⟩
        case measure => (simp [intOf]; try omega)
      have q1 := nm_flag i1 i12 c10
      by_cases c11 : i = 11 ∨ i = 12
      · have xv : W2.cell? ⟨w.heap.size, i, none⟩ = some (.string (o.txt i)) := Z1.out.2 i _ (voC_txt o _ i c11)
        have HT : Hid (txP w.heap.size i = some ⟨w.heap.size, i, none⟩) := Lib.hid (by rcases c11 with rfl | rfl <;> rfl)
        have hts := wf_txt HWF.out i
        have hfo : fieldOk o (i, m2) = decide ((o.txt i).size = m2) := by unfold fieldOk; rw [if_neg c10, if_pos c11]
        have HFO := Lib.hid hfo
        clear c11 c10 hfo
        go_wp2_with fail
        refine (text_i w.heap.size i _ i1 i12).mono ?_
        rw [HT.out]
        rintro e w5 ⟨rfl, rfl⟩
        by_cases ce : (o.txt i).size = m2
        · have d1 : (((o.txt i).size : Int) == (m2 : Int)) = true := by simp [ce]
          have d2 : (((o.txt i).size : Int) != (m2 : Int)) = false := by simp [ce]
          have HP2 := Lib.hid (HYES.out (by rw [HFO.out, decide_eq_true ce]))
          clear HYES HNO ce
          go_upto_region 12 with (fail)
          refine wp_region_held_drew (S := fun w' => w'.cell? ⟨wr.heap.size, 0, none⟩ = some (.string (nm i)) ∧ w'.cell? ⟨wr.heap.size, 1, none⟩ = some (.int .i64 (m2 : Int)) ∧ w'.cell? ⟨w.heap.size, i, none⟩ = some (.string (o.txt i))) (by kernel_rfl) ⟨n0, n1, xv⟩ (fun hHeld => ?_)
          refine wpAnyH_take (i := 0) (v := ?_) rfl (by kernel_rfl) (by kernel_rfl) (by kernel_rfl) (fun _ _ _ h => h) (Or.inl ⟨by rfl, ?_⟩) (by assumption) ?_
          rotate_left
          · (intro w hSw; (try dsimp only at hSw); go_simp; try (with_reducible rfl))
          try simp only [Act.put, List.setIfInBounds_toArray, List.set_cons_zero, List.set_cons_succ]
          refine wpAnyH_take (i := 1) (v := ?_) rfl (by kernel_rfl) (by kernel_rfl) (by kernel_rfl) (fun _ _ _ h => h) (Or.inl ⟨by rfl, ?_⟩) (by assumption) ?_
          rotate_left
          · (intro w hSw; (try dsimp only at hSw); go_simp; try (with_reducible rfl))
          try simp only [Act.put, List.setIfInBounds_toArray, List.set_cons_zero, List.set_cons_succ]
          refine wpAnyH_take (i := 6) (v := ?_) rfl (by kernel_rfl) (by kernel_rfl) (by kernel_rfl) (fun _ _ _ h => h) (Or.inl ⟨by rfl, ?_⟩) (by assumption) ?_
          rotate_left
          · (intro w hSw; (try dsimp only at hSw); go_simp; try (with_reducible rfl))
          try simp only [Act.put, List.setIfInBounds_toArray, List.set_cons_zero, List.set_cons_succ]
          refine wpAnyH_take (i := 7) (v := ?_) rfl (by kernel_rfl) (by kernel_rfl) (by kernel_rfl) (fun _ _ _ h => h) (Or.inl ⟨by rfl, ?_⟩) (by assumption) ?_
          rotate_left
          · (intro w hSw; (try dsimp only at hSw); go_simp; try (with_reducible rfl))
          try simp only [Act.put, List.setIfInBounds_toArray, List.set_cons_zero, List.set_cons_succ]
          refine wpAnyH_ready (rs := [2]) (by kernel_rfl) (by simp) ?_
          refine AllReadyH.cons rfl (fun K hK => ?_) AllReadyH.nil
          go_simp
          (go_at_call 80; refine (text_i w.heap.size i _ i1 i12).mono ?_; rw [HT.out]; rintro e w5 ⟨rfl, rfl⟩)
          try go_wp2_with fail
          refine hK.out _ _ ?_ (fun hHeld => ?_)
          · assumption
          clear hK K
          try simp only [Act.put, List.setIfInBounds_toArray, List.set_cons_zero, List.set_cons_succ]
          refine wpAnyH_take (i := 3) (v := ?_) rfl (by kernel_rfl) (by kernel_rfl) (by kernel_rfl) (fun _ _ _ h => h) (Or.inl ⟨by rfl, ?_⟩) (by assumption) ?_
          rotate_left
          · (intro w hSw; (try dsimp only at hSw); go_simp; try (with_reducible rfl))
          try simp only [Act.put, List.setIfInBounds_toArray, List.set_cons_zero, List.set_cons_succ]
          refine wpAnyH_take (i := 4) (v := ?_) rfl (by kernel_rfl) (by kernel_rfl) (by kernel_rfl) (fun _ _ _ h => h) (Or.inl ⟨by rfl, ?_⟩) (by assumption) ?_
          rotate_left
          · (intro w hSw; (try dsimp only at hSw); go_simp; try (with_reducible rfl))
          try simp only [Act.put, List.setIfInBounds_toArray, List.set_cons_zero, List.set_cons_succ]
          refine wpAnyH_take (i := 5) (v := ?_) rfl (by kernel_rfl) (by kernel_rfl) (by kernel_rfl) (fun _ _ _ h => h) (Or.inl ⟨by rfl, ?_⟩) (by assumption) ?_
          rotate_left
          · (intro w hSw; (try dsimp only at hSw); go_simp; try (with_reducible rfl))
          try simp only [Act.put, List.setIfInBounds_toArray, List.set_cons_zero, List.set_cons_succ]
          refine wpAnyH_take (i := 8) (v := ?_) rfl (by kernel_rfl) (by kernel_rfl) (by kernel_rfl) (fun _ _ _ h => h) (Or.inl ⟨by rfl, ?_⟩) (by assumption) ?_
          rotate_left
          · (intro w hSw; (try dsimp only at hSw); go_simp; try (with_reducible rfl))
          try simp only [Act.put, List.setIfInBounds_toArray, List.set_cons_zero, List.set_cons_succ]
          refine wpAnyH_done (by kernel_rfl) ?_ _
          clear n0 n1 xv
          repeat clear hHeld
          go_wp2
          go_roundw
          case rel => exact ⟨j + 1, by omega, by go_num, HP2, Lib.hid Z1.out.drew, Lib.hid LZ.out.drew, Lib.hid OZ.out.drew⟩
          case measure => (simp [intOf]; try omega)
        · have d1 : (((o.txt i).size : Int) == (m2 : Int)) = false := by simp; omega
          have d2 : (((o.txt i).size : Int) != (m2 : Int)) = true := by simp; omega
          have HB := Lib.hid (HNO.out (by rw [HFO.out, decide_eq_false ce]))
          clear HYES HNO ce
          go_upto_region 12 with (fail)
          refine wp_region_held_drew (S := fun w' => w'.cell? ⟨wr.heap.size, 0, none⟩ = some (.string (nm i)) ∧ w'.cell? ⟨wr.heap.size, 1, none⟩ = some (.int .i64 (m2 : Int)) ∧ w'.cell? ⟨w.heap.size, i, none⟩ = some (.string (o.txt i))) (by kernel_rfl) ⟨n0, n1, xv⟩ (fun hHeld => ?_)
          refine wpAnyH_take (i := 0) (v := ?_) rfl (by kernel_rfl) (by kernel_rfl) (by kernel_rfl) (fun _ _ _ h => h) (Or.inl ⟨by rfl, ?_⟩) (by assumption) ?_
          rotate_left
          · (intro w hSw; (try dsimp only at hSw); go_simp; try (with_reducible rfl))
          try simp only [Act.put, List.setIfInBounds_toArray, List.set_cons_zero, List.set_cons_succ]
          refine wpAnyH_take (i := 1) (v := ?_) rfl (by kernel_rfl) (by kernel_rfl) (by kernel_rfl) (fun _ _ _ h => h) (Or.inl ⟨by rfl, ?_⟩) (by assumption) ?_
          rotate_left
          · (intro w hSw; (try dsimp only at hSw); go_simp; try (with_reducible rfl))
          try simp only [Act.put, List.setIfInBounds_toArray, List.set_cons_zero, List.set_cons_succ]
          refine wpAnyH_take (i := 6) (v := ?_) rfl (by kernel_rfl) (by kernel_rfl) (by kernel_rfl) (fun _ _ _ h => h) (Or.inl ⟨by rfl, ?_⟩) (by assumption) ?_
          rotate_left
          · (intro w hSw; (try dsimp only at hSw); go_simp; try (with_reducible rfl))
          try simp only [Act.put, List.setIfInBounds_toArray, List.set_cons_zero, List.set_cons_succ]
          refine wpAnyH_take (i := 7) (v := ?_) rfl (by kernel_rfl) (by kernel_rfl) (by kernel_rfl) (fun _ _ _ h => h) (Or.inl ⟨by rfl, ?_⟩) (by assumption) ?_
          rotate_left
          · (intro w hSw; (try dsimp only at hSw); go_simp; try (with_reducible rfl))
          try simp only [Act.put, List.setIfInBounds_toArray, List.set_cons_zero, List.set_cons_succ]
          refine wpAnyH_ready (rs := [2]) (by kernel_rfl) (by simp) ?_
          refine AllReadyH.cons rfl (fun K hK => ?_) AllReadyH.nil
          go_simp
          (go_at_call 80; refine (text_i w.heap.size i _ i1 i12).mono ?_; rw [HT.out]; rintro e w5 ⟨rfl, rfl⟩)
          try go_wp2_with fail
          refine hK.out _ _ ?_ (fun hHeld => ?_)
          · assumption
          clear hK K
          try simp only [Act.put, List.setIfInBounds_toArray, List.set_cons_zero, List.set_cons_succ]
          refine wpAnyH_take (i := 3) (v := ?_) rfl (by kernel_rfl) (by kernel_rfl) (by kernel_rfl) (fun _ _ _ h => h) (Or.inl ⟨by rfl, ?_⟩) (by assumption) ?_
          rotate_left
          · (intro w hSw; (try dsimp only at hSw); go_simp; try (with_reducible rfl))
          try simp only [Act.put, List.setIfInBounds_toArray, List.set_cons_zero, List.set_cons_succ]
          refine wpAnyH_take (i := 4) (v := ?_) rfl (by kernel_rfl) (by kernel_rfl) (by kernel_rfl) (fun _ _ _ h => h) (Or.inl ⟨by rfl, ?_⟩) (by assumption) ?_
          rotate_left
          · (intro w hSw; (try dsimp only at hSw); go_simp; try (with_reducible rfl))
          try simp only [Act.put, List.setIfInBounds_toArray, List.set_cons_zero, List.set_cons_succ]
          refine wpAnyH_take (i := 5) (v := ?_) rfl (by kernel_rfl) (by kernel_rfl) (by kernel_rfl) (fun _ _ _ h => h) (Or.inl ⟨by rfl, ?_⟩) (by assumption) ?_
          rotate_left
          · (intro w hSw; (try dsimp only at hSw); go_simp; try (with_reducible rfl))
          try simp only [Act.put, List.setIfInBounds_toArray, List.set_cons_zero, List.set_cons_succ]
          refine wpAnyH_take (i := 8) (v := ?_) rfl (by kernel_rfl) (by kernel_rfl) (by kernel_rfl) (fun _ _ _ h => h) (Or.inl ⟨by rfl, ?_⟩) (by assumption) ?_
          rotate_left
          · (intro w hSw; (try dsimp only at hSw); go_simp; try (with_reducible rfl))
          try simp only [Act.put, List.setIfInBounds_toArray, List.set_cons_zero, List.set_cons_succ]
          refine wpAnyH_done (by kernel_rfl) ?_ _
          clear n0 n1 xv
          repeat clear hHeld
          go_wp2
          go_ret
          exact ⟨ret_bool HB.out.symm, LZ.out.drew⟩
      · have i9 : i ≤ 9 := by omega
        have xv : W2.cell? ⟨w.heap.size, i, none⟩ = some (.int .i64 (o.num i)) := Z1.out.2 i _ (voC_num o _ i i1 i9)
        have HT : Hid (txP w.heap.size i = none) := Lib.hid (by unfold txP; rw [if_neg (by omega), if_neg (by omega)])
        have hfo : fieldOk o (i, m2) = numTextB (o.num i) m2 := by unfold fieldOk; rw [if_neg c10, if_neg c11]
        have HFO := Lib.hid hfo
        have hnum := wf_num HWF.out i
        clear c11 c10 hfo
        obtain ⟨X, hX⟩ : ∃ X, X = str (numTextL (o.num i) m2) := ⟨_, rfl⟩
        have hXe : X.toList.isEmpty = !numTextB (o.num i) m2 := by rw [hX]; exact isE_nt
        have HX := Lib.hid hX
        clear hX
        go_wp2_with fail
        refine (text_i w.heap.size i _ i1 i12).mono ?_
        rw [HT.out]
        rintro e w5 ⟨rfl, rfl⟩
        have keep : ∀ w', Below W2.drew.heap.size W2.drew w' → w'.cell? ⟨wr.heap.size, 0, none⟩ = some (.string (nm i)) ∧ w'.cell? ⟨wr.heap.size, 1, none⟩ = some (.int .i64 (m2 : Int)) ∧ w'.cell? ⟨w.heap.size, i, none⟩ = some (.int .i64 (o.num i)) := fun w' hb =>
          ⟨(hb.cell (p := ⟨wr.heap.size, 0, none⟩) gws).trans n0, (hb.cell (p := ⟨wr.heap.size, 1, none⟩) gws).trans n1, (hb.cell (p := ⟨w.heap.size, i, none⟩) gw0).trans xv⟩
        have HKP := Lib.hid keep
        clear keep
        cases hb : numTextB (o.num i) m2
        · rw [hb] at hXe
          have e1 : X.toList.isEmpty = true := hXe
          have e2 : X.toList = [] := List.isEmpty_iff.1 e1
          have HB := Lib.hid (HNO.out (by rw [HFO.out, hb]))
          clear HYES HNO hXe hb
          go_upto_region 14 with (fail)
          refine wp_region_held_drew (S := fun w' => w'.cell? ⟨wr.heap.size, 0, none⟩ = some (.string (nm i)) ∧ w'.cell? ⟨wr.heap.size, 1, none⟩ = some (.int .i64 (m2 : Int)) ∧ w'.cell? ⟨w.heap.size, i, none⟩ = some (.int .i64 (o.num i))) (by kernel_rfl) ⟨n0, n1, xv⟩ (fun hHeld => ?_)
          refine wpAnyH_take (i := 0) (v := ?_) rfl (by kernel_rfl) (by kernel_rfl) (by kernel_rfl) (fun _ _ _ h => h) (Or.inl ⟨by rfl, ?_⟩) (by assumption) ?_
          rotate_left
          · (intro w hSw; (try dsimp only at hSw); go_simp; try (with_reducible rfl))
          try simp only [Act.put, List.setIfInBounds_toArray, List.set_cons_zero, List.set_cons_succ]
          refine wpAnyH_take (i := 1) (v := ?_) rfl (by kernel_rfl) (by kernel_rfl) (by kernel_rfl) (fun _ _ _ h => h) (Or.inl ⟨by rfl, ?_⟩) (by assumption) ?_
          rotate_left
          · (intro w hSw; (try dsimp only at hSw); go_simp; try (with_reducible rfl))
          try simp only [Act.put, List.setIfInBounds_toArray, List.set_cons_zero, List.set_cons_succ]
          refine wpAnyH_take (i := 5) (v := ?_) rfl (by kernel_rfl) (by kernel_rfl) (by kernel_rfl) (fun _ _ _ h => h) (Or.inl ⟨by rfl, ?_⟩) (by assumption) ?_
          rotate_left
          · (intro w hSw; (try dsimp only at hSw); go_simp; try (with_reducible rfl))
          try simp only [Act.put, List.setIfInBounds_toArray, List.set_cons_zero, List.set_cons_succ]
          refine wpAnyH_take (i := 6) (v := ?_) rfl (by kernel_rfl) (by kernel_rfl) (by kernel_rfl) (fun _ _ _ h => h) (Or.inl ⟨by rfl, ?_⟩) (by assumption) ?_
          rotate_left
          · (intro w hSw; (try dsimp only at hSw); go_simp; try (with_reducible rfl))
          try simp only [Act.put, List.setIfInBounds_toArray, List.set_cons_zero, List.set_cons_succ]
          refine wpAnyH_ready (rs := [2]) (by kernel_rfl) (by simp) ?_
          refine AllReadyH.cons rfl (fun K hK => ?_) AllReadyH.nil
          go_simp
          (go_at_call 82; refine (number_i w.heap.size i _ i1 i9).mono ?_; rintro e w5 ⟨rfl, rfl⟩)
          try go_wp2_with fail
          refine hK.out _ _ ?_ (fun hHeld => ?_)
          · assumption
          clear hK K
          try simp only [Act.put, List.setIfInBounds_toArray, List.set_cons_zero, List.set_cons_succ]
          refine wpAnyH_take (i := 3) (v := ?_) rfl (by kernel_rfl) (by kernel_rfl) (by kernel_rfl) (fun _ _ _ h => h) (Or.inl ⟨by rfl, ?_⟩) (by assumption) ?_
          rotate_left
          · (intro w hSw; (try dsimp only at hSw); go_simp; try (with_reducible rfl))
          try simp only [Act.put, List.setIfInBounds_toArray, List.set_cons_zero, List.set_cons_succ]
          refine wpAnyH_take (i := 4) (v := ?_) rfl (by kernel_rfl) (by kernel_rfl) (by kernel_rfl) (fun _ _ _ h => h) (Or.inl ⟨by rfl, ?_⟩) (by assumption) ?_
          rotate_left
          · (intro w hSw; (try dsimp only at hSw); go_simp; try (with_reducible rfl))
          try simp only [Act.put, List.setIfInBounds_toArray, List.set_cons_zero, List.set_cons_succ]
          refine wpAnyH_ready (rs := [7]) (by kernel_rfl) (by simp) ?_
          refine AllReadyH.cons rfl (fun K hK => ?_) AllReadyH.nil
          go_simp
          (go_at_call 81; refine (numText_i (o.num i) m2 _ hnum).mono ?_; rw [← HX.out]; rintro e w5 ⟨rfl, hb5⟩)
          try go_wp2_with fail
          refine hK.out _ _ ?_ (fun hHeld => ?_)
          · exact HKP.out _ hb5
          clear hK K
          try simp only [Act.put, List.setIfInBounds_toArray, List.set_cons_zero, List.set_cons_succ]
          refine wpAnyH_take (i := 8) (v := ?_) rfl (by kernel_rfl) (by kernel_rfl) (by kernel_rfl) (fun _ _ _ h => h) (Or.inl ⟨by rfl, ?_⟩) (by assumption) ?_
          rotate_left
          · (intro w hSw; (try dsimp only at hSw); go_simp; try (with_reducible rfl))
          try simp only [Act.put, List.setIfInBounds_toArray, List.set_cons_zero, List.set_cons_succ]
          refine wpAnyH_take (i := 9) (v := ?_) rfl (by kernel_rfl) (by kernel_rfl) (by kernel_rfl) (fun _ _ _ h => h) (Or.inl ⟨by rfl, ?_⟩) (by assumption) ?_
          rotate_left
          · (intro w hSw; (try dsimp only at hSw); go_simp; try (with_reducible rfl))
          try simp only [Act.put, List.setIfInBounds_toArray, List.set_cons_zero, List.set_cons_succ]
          refine wpAnyH_done (by kernel_rfl) ?_ _
          clear n0 n1 xv
          repeat clear hHeld
          have L5 := Lib.hid (LZ.out.drew.trans (hb5.mono LZ.out.drew.size))
          clear hb5
          go_wp2
          go_ret
          exact ⟨ret_bool HB.out.symm, L5.out⟩
        · rw [hb] at hXe
          have e1 : X.toList.isEmpty = false := hXe
          have e2 : ¬ X.toList = [] := by intro e; rw [e] at e1; cases e1
          have HP2 := Lib.hid (HYES.out (by rw [HFO.out, hb]))
          clear HYES HNO hXe hb
          go_upto_region 14 with (fail)
          refine wp_region_held_drew (S := fun w' => w'.cell? ⟨wr.heap.size, 0, none⟩ = some (.string (nm i)) ∧ w'.cell? ⟨wr.heap.size, 1, none⟩ = some (.int .i64 (m2 : Int)) ∧ w'.cell? ⟨w.heap.size, i, none⟩ = some (.int .i64 (o.num i))) (by kernel_rfl) ⟨n0, n1, xv⟩ (fun hHeld => ?_)
          refine wpAnyH_take (i := 0) (v := ?_) rfl (by kernel_rfl) (by kernel_rfl) (by kernel_rfl) (fun _ _ _ h => h) (Or.inl ⟨by rfl, ?_⟩) (by assumption) ?_
          rotate_left
          · (intro w hSw; (try dsimp only at hSw); go_simp; try (with_reducible rfl))
          try simp only [Act.put, List.setIfInBounds_toArray, List.set_cons_zero, List.set_cons_succ]
          refine wpAnyH_take (i := 1) (v := ?_) rfl (by kernel_rfl) (by kernel_rfl) (by kernel_rfl) (fun _ _ _ h => h) (Or.inl ⟨by rfl, ?_⟩) (by assumption) ?_
          rotate_left
          · (intro w hSw; (try dsimp only at hSw); go_simp; try (with_reducible rfl))
          try simp only [Act.put, List.setIfInBounds_toArray, List.set_cons_zero, List.set_cons_succ]
          refine wpAnyH_take (i := 5) (v := ?_) rfl (by kernel_rfl) (by kernel_rfl) (by kernel_rfl) (fun _ _ _ h => h) (Or.inl ⟨by rfl, ?_⟩) (by assumption) ?_
          rotate_left
          · (intro w hSw; (try dsimp only at hSw); go_simp; try (with_reducible rfl))
          try simp only [Act.put, List.setIfInBounds_toArray, List.set_cons_zero, List.set_cons_succ]
          refine wpAnyH_take (i := 6) (v := ?_) rfl (by kernel_rfl) (by kernel_rfl) (by kernel_rfl) (fun _ _ _ h => h) (Or.inl ⟨by rfl, ?_⟩) (by assumption) ?_
          rotate_left
          · (intro w hSw; (try dsimp only at hSw); go_simp; try (with_reducible rfl))
          try simp only [Act.put, List.setIfInBounds_toArray, List.set_cons_zero, List.set_cons_succ]
          refine wpAnyH_ready (rs := [2]) (by kernel_rfl) (by simp) ?_
          refine AllReadyH.cons rfl (fun K hK => ?_) AllReadyH.nil
          go_simp
          (go_at_call 82; refine (number_i w.heap.size i _ i1 i9).mono ?_; rintro e w5 ⟨rfl, rfl⟩)
          try go_wp2_with fail
          refine hK.out _ _ ?_ (fun hHeld => ?_)
          · assumption
          clear hK K
          try simp only [Act.put, List.setIfInBounds_toArray, List.set_cons_zero, List.set_cons_succ]
          refine wpAnyH_take (i := 3) (v := ?_) rfl (by kernel_rfl) (by kernel_rfl) (by kernel_rfl) (fun _ _ _ h => h) (Or.inl ⟨by rfl, ?_⟩) (by assumption) ?_
          rotate_left
          · (intro w hSw; (try dsimp only at hSw); go_simp; try (with_reducible rfl))
          try simp only [Act.put, List.setIfInBounds_toArray, List.set_cons_zero, List.set_cons_succ]
          refine wpAnyH_take (i := 4) (v := ?_) rfl (by kernel_rfl) (by kernel_rfl) (by kernel_rfl) (fun _ _ _ h => h) (Or.inl ⟨by rfl, ?_⟩) (by assumption) ?_
          rotate_left
          · (intro w hSw; (try dsimp only at hSw); go_simp; try (with_reducible rfl))
          try simp only [Act.put, List.setIfInBounds_toArray, List.set_cons_zero, List.set_cons_succ]
          refine wpAnyH_ready (rs := [7]) (by kernel_rfl) (by simp) ?_
          refine AllReadyH.cons rfl (fun K hK => ?_) AllReadyH.nil
          go_simp
          (go_at_call 81; refine (numText_i (o.num i) m2 _ hnum).mono ?_; rw [← HX.out]; rintro e w5 ⟨rfl, hb5⟩)
          try go_wp2_with fail
          refine hK.out _ _ ?_ (fun hHeld => ?_)
          · exact HKP.out _ hb5
          clear hK K
          try simp only [Act.put, List.setIfInBounds_toArray, List.set_cons_zero, List.set_cons_succ]
          refine wpAnyH_take (i := 8) (v := ?_) rfl (by kernel_rfl) (by kernel_rfl) (by kernel_rfl) (fun _ _ _ h => h) (Or.inl ⟨by rfl, ?_⟩) (by assumption) ?_
          rotate_left
          · (intro w hSw; (try dsimp only at hSw); go_simp; try (with_reducible rfl))
          try simp only [Act.put, List.setIfInBounds_toArray, List.set_cons_zero, List.set_cons_succ]
          refine wpAnyH_take (i := 9) (v := ?_) rfl (by kernel_rfl) (by kernel_rfl) (by kernel_rfl) (fun _ _ _ h => h) (Or.inl ⟨by rfl, ?_⟩) (by assumption) ?_
          rotate_left
          · (intro w hSw; (try dsimp only at hSw); go_simp; try (with_reducible rfl))
          try simp only [Act.put, List.setIfInBounds_toArray, List.set_cons_zero, List.set_cons_succ]
          refine wpAnyH_done (by kernel_rfl) ?_ _
          clear n0 n1 xv
          repeat clear hHeld
          have L5 := Lib.hid (LZ.out.drew.trans (hb5.mono LZ.out.drew.size))
          have Z5 := Lib.hid (Z1.out.drew.below hb5)
          have O5 := Lib.hid (OZ.out.drew.below hb5)
          clear hb5
          go_wp2
          go_roundw
          case rel => exact ⟨j + 1, by omega, by go_num, HP2, Z5, L5, O5⟩
          case measure => (simp [intOf]; try omega)
end Go.Proofs.Ytkgbkgonlopciaa

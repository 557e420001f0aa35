/- The walks of the laws' helpers: rows of options looked at again; segments marked, looked at again. -/
import Derived.Test.YtkgbkgonlopciaaM10
import Derived.Test.YtkgbkgonlopciaaK10
import Derived.Deep.Cut
import Derived.Deep.RegionHeld
namespace Go.Proofs.Ytkgbkgonlopciaa
open Go.RowKit
set_option linter.unusedVariables false
set_option linter.unusedSimpArgs false
theorem omL_at {os : List OD} {j k : Nat} {o : OD} (h : os[j]? = some o) : (omL k os)[j]? = some (omO (omE k (os.take j)) o) := by
  obtain ⟨hj, rfl⟩ := List.getElem?_eq_some_iff.1 h
  have e : os = os.take j ++ (os[j] :: os.drop (j + 1)) := by rw [← List.drop_eq_getElem_cons hj, List.take_append_drop]
  have e2 : omL k os = omL k (os.take j) ++ omL (omE k (os.take j)) (os[j] :: os.drop (j + 1)) := by rw [← omL_append]; exact congrArg (omL k) e
  rw [e2, List.getElem?_append_right (by rw [omL_len, List.length_take]; omega), omL_len, List.length_take, Nat.min_eq_left (by omega), Nat.sub_self]
  rfl
set_option maxRecDepth 100000 in
set_option maxHeartbeats 6400000 in
theorem heldOptS_l (v : Value) (n : Nat) (os : List OD) (ivs : List Value) (k0 : Nat) (w : World) (h : RdO w v n (omL k0 os) ivs) (hk1 : 1 ≤ k0) (hk : k0 + 13 * n + sumO os ≤ 4294967296) :
    Calls Try.prog 90 #[v, .int .i64 (k0 : Int)] w fun e w' => e = .returned (.int .i64 ((omE k0 os : Nat) : Int)) ∧ Below w.heap.size w w' := by
  have HL : Hid (os.length = n) := Lib.hid (by have := h.lo; rwa [omL_len] at this)
  have HKB := Lib.hid hk
  obtain ⟨A0, c0, e0, hm⟩ := h.shape
  unfold maxLen at hm
  have H := Lib.hid h
  clear h
  subst e0
  go_enter Try.func90, Try.ntmps90
  go_wp2
  go_loopw [1, 5] (fun m i wr => ∃ j : Nat, j ≤ n ∧ i = .int .i64 (j : Int) ∧ m = .int .i64 ((omE k0 (os.take j) : Nat) : Int) ∧ Hid (Below w.heap.size w wr)) (fun _ i _ => n - (intOf i).toNat)
  case atStart => exact ⟨0, Nat.zero_le _, rfl, rfl, Lib.hid (Below.refl _ _)⟩
  case round =>
    obtain ⟨j, hj, rfl, rfl, HN⟩ := hrel
    by_cases hlt : j < n
    · obtain ⟨b1, o1, c1, e0⟩ := H.out.full (by omega)
      simp only [Value.slice.injEq] at e0
      obtain ⟨rfl, _, rfl⟩ := e0
      obtain ⟨K, hK⟩ : ∃ K, K = omE k0 (os.take j) := ⟨_, rfl⟩
      obtain ⟨o, ho⟩ : ∃ o, os[j]? = some o := ⟨_, List.getElem?_eq_getElem (by have := HL.out; omega)⟩
      obtain ⟨o', iv, ho', hiv, hB, hR⟩ := (H.out.below HN.out).at_ hlt
      rw [omL_at ho, ← hK] at ho'
      obtain rfl := Option.some.inj ho'
      have hKb : 1 ≤ K ∧ K + 13 + o.ids.length ≤ 4294967296 := by
        have h1 := omE_le (os.take j) k0
        have h2 := sumO_le ho
        have h3 : o.ids.length ≤ szO o := by unfold szO; omega
        have h4 := HKB.out
        rw [List.length_take] at h1
        omega
      obtain ⟨hK1p, hKb2⟩ := hKb
      have hidb : o.ids.length ≤ 4294967296 := by omega
      have hKle : K ≤ 4294967296 := by omega
      have hK13b : K + 13 ≤ 4294967296 := by omega
      have HE : Hid (omE k0 (os.take (j + 1)) = K + 13 + o.ids.length) := Lib.hid (by rw [omE_step ho, ← hK]; rfl)
      have XB := Lib.hid hB
      have XR : Hid (Rd wr 1 iv o.ids.length ((marks (K + 13 : Nat) o.ids.length).map vn)) := Lib.hid (by
        have h1 := hR
        rw [show (omO K o).ids = marks (K + 13 : Nat) o.ids.length from rfl, marks_len] at h1
        exact h1)
      obtain ⟨A1, cp1, rfl, _⟩ := XR.out.shape
      rw [← hK]
      clear ho hiv hB hR hK ho'
      obtain ⟨K0, hK0⟩ : ∃ z : Int, z = ((K + 0 : Nat) : Int) := ⟨_, rfl⟩
      obtain ⟨K1, hK1⟩ : ∃ z : Int, z = ((K + 1 : Nat) : Int) := ⟨_, rfl⟩
      obtain ⟨K2, hK2⟩ : ∃ z : Int, z = ((K + 2 : Nat) : Int) := ⟨_, rfl⟩
      obtain ⟨K3, hK3⟩ : ∃ z : Int, z = ((K + 3 : Nat) : Int) := ⟨_, rfl⟩
      obtain ⟨K4, hK4⟩ : ∃ z : Int, z = ((K + 4 : Nat) : Int) := ⟨_, rfl⟩
      obtain ⟨K5, hK5⟩ : ∃ z : Int, z = ((K + 5 : Nat) : Int) := ⟨_, rfl⟩
      obtain ⟨K6, hK6⟩ : ∃ z : Int, z = ((K + 6 : Nat) : Int) := ⟨_, rfl⟩
      obtain ⟨K7, hK7⟩ : ∃ z : Int, z = ((K + 7 : Nat) : Int) := ⟨_, rfl⟩
      obtain ⟨K8, hK8⟩ : ∃ z : Int, z = ((K + 8 : Nat) : Int) := ⟨_, rfl⟩
      obtain ⟨K9, hK9⟩ : ∃ z : Int, z = ((K + 9 : Nat) : Int) := ⟨_, rfl⟩
      obtain ⟨K10, hK10⟩ : ∃ z : Int, z = ((K + 10 : Nat) : Int) := ⟨_, rfl⟩
      obtain ⟨K11, hK11⟩ : ∃ z : Int, z = ((K + 11 : Nat) : Int) := ⟨_, rfl⟩
      obtain ⟨K12, hK12⟩ : ∃ z : Int, z = ((K + 12 : Nat) : Int) := ⟨_, rfl⟩
      obtain ⟨K13, hK13⟩ : ∃ z : Int, z = ((K + 13 : Nat) : Int) := ⟨_, rfl⟩
      rw [show ((K : Nat) : Int) = K0 from hK0.symm]
      have w1 : IntKind.i64.wrap (K0 + 1) = K1 := wrapK hK0 hK1 hKle (by decide)
      have w2 : IntKind.i64.wrap (K1 + 1) = K2 := wrapK hK1 hK2 hKle (by decide)
      have w3 : IntKind.i64.wrap (K2 + 1) = K3 := wrapK hK2 hK3 hKle (by decide)
      have w4 : IntKind.i64.wrap (K3 + 1) = K4 := wrapK hK3 hK4 hKle (by decide)
      have w5 : IntKind.i64.wrap (K4 + 1) = K5 := wrapK hK4 hK5 hKle (by decide)
      have w6 : IntKind.i64.wrap (K5 + 1) = K6 := wrapK hK5 hK6 hKle (by decide)
      have w7 : IntKind.i64.wrap (K6 + 1) = K7 := wrapK hK6 hK7 hKle (by decide)
      have w8 : IntKind.i64.wrap (K7 + 1) = K8 := wrapK hK7 hK8 hKle (by decide)
      have w9 : IntKind.i64.wrap (K8 + 1) = K9 := wrapK hK8 hK9 hKle (by decide)
      have w10 : IntKind.i64.wrap (K9 + 1) = K10 := wrapK hK9 hK10 hKle (by decide)
      have w11 : IntKind.i64.wrap (K10 + 1) = K11 := wrapK hK10 hK11 hKle (by decide)
      have w12 : IntKind.i64.wrap (K11 + 1) = K12 := wrapK hK11 hK12 hKle (by decide)
      have w13 : IntKind.i64.wrap (K12 + 1) = K13 := wrapK hK12 hK13 hKle (by decide)
      have HK0 := Lib.hid hK0
      have HK1 := Lib.hid hK1
      have HK2 := Lib.hid hK2
      have HK3 := Lib.hid hK3
      have HK4 := Lib.hid hK4
      have HK5 := Lib.hid hK5
      have HK6 := Lib.hid hK6
      have HK7 := Lib.hid hK7
      have HK8 := Lib.hid hK8
      have HK9 := Lib.hid hK9
      have HK10 := Lib.hid hK10
      have HK11 := Lib.hid hK11
      have HK12 := Lib.hid hK12
      have HK13 := Lib.hid hK13
      have x0 : wr.cell? ⟨b1, o1 + j * 14, none⟩ = some (.int .i64 K0) := by rw [hK0]; exact XB.out.2 0 _ rfl
      have x1 : wr.cell? ⟨b1, o1 + j * 14 + 1, none⟩ = some (.int .i64 K1) := by rw [hK1]; exact XB.out.2 1 _ rfl
      have x2 : wr.cell? ⟨b1, o1 + j * 14 + 2, none⟩ = some (.int .i64 K2) := by rw [hK2]; exact XB.out.2 2 _ rfl
      have x3 : wr.cell? ⟨b1, o1 + j * 14 + 3, none⟩ = some (.int .i64 K3) := by rw [hK3]; exact XB.out.2 3 _ rfl
      have x4 : wr.cell? ⟨b1, o1 + j * 14 + 4, none⟩ = some (.int .i64 K4) := by rw [hK4]; exact XB.out.2 4 _ rfl
      have x5 : wr.cell? ⟨b1, o1 + j * 14 + 5, none⟩ = some (.int .i64 K5) := by rw [hK5]; exact XB.out.2 5 _ rfl
      have x6 : wr.cell? ⟨b1, o1 + j * 14 + 6, none⟩ = some (.int .i64 K6) := by rw [hK6]; exact XB.out.2 6 _ rfl
      have x7 : wr.cell? ⟨b1, o1 + j * 14 + 7, none⟩ = some (.int .i64 K7) := by rw [hK7]; exact XB.out.2 7 _ rfl
      have x8 : wr.cell? ⟨b1, o1 + j * 14 + 8, none⟩ = some (.int .i64 K8) := by rw [hK8]; exact XB.out.2 8 _ rfl
      have x9 : wr.cell? ⟨b1, o1 + j * 14 + 9, none⟩ = some (.int .i64 K9) := by rw [hK9]; exact XB.out.2 9 _ rfl
      have b10 := bndK hK10 hKle (by decide)
      obtain ⟨b10a, b10b⟩ := b10
      clear hK0 hK1 hK2 hK3 hK4 hK5 hK6 hK7 hK8 hK9 hK11 hK12 hK13
      obtain ⟨FL, hFL⟩ : ∃ b, b = decide ((K + 10) % 3 = 0) := ⟨_, rfl⟩
      have hrem : (K10 % 3 == 0) = FL := by rw [hFL]; exact remK hK10
      have x10 : wr.cell? ⟨b1, o1 + j * 14 + 10, none⟩ = some (.bool FL) := by rw [hFL]; exact XB.out.2 10 _ rfl
      clear hFL hK10
      obtain ⟨T11, hT11⟩ : ∃ T, T = markT (K + 11) := ⟨_, rfl⟩
      obtain ⟨T12, hT12⟩ : ∃ T, T = markT (K + 12) := ⟨_, rfl⟩
      have HT11 := Lib.hid hT11
      have HT12 := Lib.hid hT12
      have X11 : Hid (wr.cell? ⟨b1, o1 + j * 14 + 11, none⟩ = some (.string T11)) := Lib.hid (by rw [hT11]; exact XB.out.2 11 _ rfl)
      have X12 : Hid (wr.cell? ⟨b1, o1 + j * 14 + 12, none⟩ = some (.string T12)) := Lib.hid (by rw [hT12]; exact XB.out.2 12 _ rfl)
      have X13 : Hid (wr.cell? ⟨b1, o1 + j * 14 + 13, none⟩ = some (.slice A1 o.ids.length cp1)) := Lib.hid (XB.out.2 13 _ rfl)
      have hb1 := XB.out.1
      have M11 : Hid (∀ W : World, Calls Try.prog 97 #[.int .i64 K11] W fun e w' => e = .returned (.string T11) ∧ Below W.heap.size W w') := Lib.hid (fun W => by
        rw [HK11.out, hT11]; exact markText_l (K + 11) W (Nat.le_trans (by decide) (Nat.le_add_left 11 K)) (Nat.le_trans (Nat.add_le_add_right hKle 11) (by decide)))
      have M12 : Hid (∀ W : World, Calls Try.prog 97 #[.int .i64 K12] W fun e w' => e = .returned (.string T12) ∧ Below W.heap.size W w') := Lib.hid (fun W => by
        rw [HK12.out, hT12]; exact markText_l (K + 12) W (Nat.le_trans (by decide) (Nat.le_add_left 12 K)) (Nat.le_trans (Nat.add_le_add_right hKle 12) (by decide)))
      have hKK : K + 13 ≤ 4294967296 := hK13b
      clear hT11 hT12
      skip
      go_upto_region 37 with (fail)
      clear x0 x1 x2 x3 x4 x5 x6 x7 x8 x9 x10
      refine wp_region_held_drew (S := fun w' => w'.cell? ⟨b1, o1 + j * 14 + 11, none⟩ = some (.string T11) ∧ Below wr.heap.size wr w') (by kernel_rfl) ⟨X11.out, (Below.refl _ wr).drew⟩ (fun hHeld => ?_)
      refine wpAnyH_take (i := 0) (oi := ⟨some 113, _, _, _, _, _⟩) (v := ?_) rfl (by kernel_rfl) (by kernel_rfl) (by kernel_rfl) (fun _ _ _ h => h) (Or.inl ⟨by kernel_rfl, ?_⟩) (by assumption) ?_
      rotate_left
      · (intro w hSw; (try dsimp only at hSw); go_simp; try (with_reducible rfl))
      try simp only [Act.put, List.setIfInBounds_toArray, List.set_cons_zero, List.set_cons_succ]
      refine wpAnyH_take (i := 1) (oi := ⟨some 114, _, _, _, _, _⟩) (v := ?_) rfl (by kernel_rfl) (by kernel_rfl) (by kernel_rfl) (fun _ _ _ h => h) (Or.inl ⟨by kernel_rfl, ?_⟩) (by assumption) ?_
      rotate_left
      · (intro w hSw; (try dsimp only at hSw); go_simp; try (with_reducible rfl))
      try simp only [Act.put, List.setIfInBounds_toArray, List.set_cons_zero, List.set_cons_succ]
      refine wpAnyH_take (i := 2) (oi := ⟨some 115, _, _, _, _, _⟩) (v := ?_) rfl (by kernel_rfl) (by kernel_rfl) (by kernel_rfl) (fun _ _ _ h => h) (Or.inl ⟨by kernel_rfl, ?_⟩) (by assumption) ?_
      rotate_left
      · (intro w hSw; (try dsimp only at hSw); go_simp; try (with_reducible rfl))
      try simp only [Act.put, List.setIfInBounds_toArray, List.set_cons_zero, List.set_cons_succ]
      refine wpAnyH_take (i := 3) (oi := ⟨some 116, _, _, _, _, _⟩) (v := ?_) rfl (by kernel_rfl) (by kernel_rfl) (by kernel_rfl) (fun _ _ _ h => h) (Or.inl ⟨by kernel_rfl, ?_⟩) (by assumption) ?_
      rotate_left
      · (intro w hSw; (try dsimp only at hSw); go_simp; try (with_reducible rfl))
      try simp only [Act.put, List.setIfInBounds_toArray, List.set_cons_zero, List.set_cons_succ]
      refine wpAnyH_take (i := 4) (oi := ⟨some 117, _, _, _, _, _⟩) (v := ?_) rfl (by kernel_rfl) (by kernel_rfl) (by kernel_rfl) (fun _ _ _ h => h) (Or.inl ⟨by kernel_rfl, ?_⟩) (by assumption) ?_
      rotate_left
      · (intro w hSw; (try dsimp only at hSw); go_simp; try (with_reducible rfl))
      try simp only [Act.put, List.setIfInBounds_toArray, List.set_cons_zero, List.set_cons_succ]
      refine wpAnyH_take (i := 5) (oi := ⟨some 118, _, _, _, _, _⟩) (v := ?_) rfl (by kernel_rfl) (by kernel_rfl) (by kernel_rfl) (fun _ _ _ h => h) (Or.inl ⟨by kernel_rfl, ?_⟩) (by assumption) ?_
      rotate_left
      · (intro w hSw; (try dsimp only at hSw); go_simp; try (with_reducible rfl))
      try simp only [Act.put, List.setIfInBounds_toArray, List.set_cons_zero, List.set_cons_succ]
      refine wpAnyH_ready (rs := [6]) (by kernel_rfl) (by simp) ?_
      refine AllReadyH.cons (o := ⟨some 119, _, _, _, _, _⟩) rfl (fun K hK => ?_) AllReadyH.nil
      go_simp
      (go_at_call 97; refine (M11.out _).mono ?_; rintro e V2 ⟨rfl, hb⟩)
      try go_wp2_with fail
      refine hK.out _ _ ?_ (fun hHeld => ?_)
      · exact ⟨(((Below.refl _ wr).drew.trans hb).cell (p := ⟨b1, o1 + j * 14 + 11, none⟩) hb1).trans X11.out, (Below.refl _ wr).drew.trans hb⟩
      clear hK K
      try simp only [Act.put, List.setIfInBounds_toArray, List.set_cons_zero, List.set_cons_succ]
      have B2 := Lib.hid ((Below.refl _ wr).drew.trans hb)
      clear hb
      refine wpAnyH_take (i := 7) (oi := ⟨some 120, _, _, _, _, _⟩) (v := ?_) rfl (by kernel_rfl) (by kernel_rfl) (by kernel_rfl) (fun _ _ _ h => h) (Or.inl ⟨by kernel_rfl, ?_⟩) (by assumption) ?_
      rotate_left
      · (intro w hSw; (try dsimp only at hSw); go_simp; try (with_reducible rfl))
      try simp only [Act.put, List.setIfInBounds_toArray, List.set_cons_zero, List.set_cons_succ]
      refine wpAnyH_done (by kernel_rfl) ?_ _
      repeat clear hHeld
      have Y12 : Hid (V2.cell? ⟨b1, o1 + j * 14 + 12, none⟩ = some (.string T12)) := Lib.hid ((B2.out.cell (p := ⟨b1, o1 + j * 14 + 12, none⟩) hb1).trans X12.out)
      have Y13 : Hid (V2.cell? ⟨b1, o1 + j * 14 + 13, none⟩ = some (.slice A1 o.ids.length cp1)) := Lib.hid ((B2.out.cell (p := ⟨b1, o1 + j * 14 + 13, none⟩) hb1).trans X13.out)
      have hb2 : b1 < V2.heap.size := Nat.lt_of_lt_of_le hb1 B2.out.size
      go_upto_region 40 with (fail)
      refine wp_region_held_drew (S := fun w' => w'.cell? ⟨b1, o1 + j * 14 + 12, none⟩ = some (.string T12) ∧ Below V2.heap.size V2 w') (by kernel_rfl) ⟨Y12.out, (Below.refl _ V2).drew⟩ (fun hHeld => ?_)
      refine wpAnyH_take (i := 0) (oi := ⟨some 123, _, _, _, _, _⟩) (v := ?_) rfl (by kernel_rfl) (by kernel_rfl) (by kernel_rfl) (fun _ _ _ h => h) (Or.inl ⟨by kernel_rfl, ?_⟩) (by assumption) ?_
      rotate_left
      · (intro w hSw; (try dsimp only at hSw); go_simp; try (with_reducible rfl))
      try simp only [Act.put, List.setIfInBounds_toArray, List.set_cons_zero, List.set_cons_succ]
      refine wpAnyH_take (i := 1) (oi := ⟨some 124, _, _, _, _, _⟩) (v := ?_) rfl (by kernel_rfl) (by kernel_rfl) (by kernel_rfl) (fun _ _ _ h => h) (Or.inl ⟨by kernel_rfl, ?_⟩) (by assumption) ?_
      rotate_left
      · (intro w hSw; (try dsimp only at hSw); go_simp; try (with_reducible rfl))
      try simp only [Act.put, List.setIfInBounds_toArray, List.set_cons_zero, List.set_cons_succ]
      refine wpAnyH_take (i := 2) (oi := ⟨some 125, _, _, _, _, _⟩) (v := ?_) rfl (by kernel_rfl) (by kernel_rfl) (by kernel_rfl) (fun _ _ _ h => h) (Or.inl ⟨by kernel_rfl, ?_⟩) (by assumption) ?_
      rotate_left
      · (intro w hSw; (try dsimp only at hSw); go_simp; try (with_reducible rfl))
      try simp only [Act.put, List.setIfInBounds_toArray, List.set_cons_zero, List.set_cons_succ]
      refine wpAnyH_take (i := 3) (oi := ⟨some 126, _, _, _, _, _⟩) (v := ?_) rfl (by kernel_rfl) (by kernel_rfl) (by kernel_rfl) (fun _ _ _ h => h) (Or.inl ⟨by kernel_rfl, ?_⟩) (by assumption) ?_
      rotate_left
      · (intro w hSw; (try dsimp only at hSw); go_simp; try (with_reducible rfl))
      try simp only [Act.put, List.setIfInBounds_toArray, List.set_cons_zero, List.set_cons_succ]
      refine wpAnyH_take (i := 4) (oi := ⟨some 127, _, _, _, _, _⟩) (v := ?_) rfl (by kernel_rfl) (by kernel_rfl) (by kernel_rfl) (fun _ _ _ h => h) (Or.inl ⟨by kernel_rfl, ?_⟩) (by assumption) ?_
      rotate_left
      · (intro w hSw; (try dsimp only at hSw); go_simp; try (with_reducible rfl))
      try simp only [Act.put, List.setIfInBounds_toArray, List.set_cons_zero, List.set_cons_succ]
      refine wpAnyH_take (i := 5) (oi := ⟨some 128, _, _, _, _, _⟩) (v := ?_) rfl (by kernel_rfl) (by kernel_rfl) (by kernel_rfl) (fun _ _ _ h => h) (Or.inl ⟨by kernel_rfl, ?_⟩) (by assumption) ?_
      rotate_left
      · (intro w hSw; (try dsimp only at hSw); go_simp; try (with_reducible rfl))
      try simp only [Act.put, List.setIfInBounds_toArray, List.set_cons_zero, List.set_cons_succ]
      refine wpAnyH_ready (rs := [6]) (by kernel_rfl) (by simp) ?_
      refine AllReadyH.cons (o := ⟨some 129, _, _, _, _, _⟩) rfl (fun K hK => ?_) AllReadyH.nil
      go_simp
      (go_at_call 97; refine (M12.out _).mono ?_; rintro e V3 ⟨rfl, hb⟩)
      try go_wp2_with fail
      refine hK.out _ _ ?_ (fun hHeld => ?_)
      · exact ⟨(((Below.refl _ V2).drew.trans hb).cell (p := ⟨b1, o1 + j * 14 + 12, none⟩) hb2).trans Y12.out, (Below.refl _ V2).drew.trans hb⟩
      clear hK K
      try simp only [Act.put, List.setIfInBounds_toArray, List.set_cons_zero, List.set_cons_succ]
      have B3 := Lib.hid ((Below.refl _ V2).drew.trans hb)
      clear hb
      refine wpAnyH_take (i := 7) (oi := ⟨some 130, _, _, _, _, _⟩) (v := ?_) rfl (by kernel_rfl) (by kernel_rfl) (by kernel_rfl) (fun _ _ _ h => h) (Or.inl ⟨by kernel_rfl, ?_⟩) (by assumption) ?_
      rotate_left
      · (intro w hSw; (try dsimp only at hSw); go_simp; try (with_reducible rfl))
      try simp only [Act.put, List.setIfInBounds_toArray, List.set_cons_zero, List.set_cons_succ]
      refine wpAnyH_done (by kernel_rfl) ?_ _
      repeat clear hHeld
      have x13 : V3.cell? ⟨b1, o1 + j * 14 + 13, none⟩ = some (.slice A1 o.ids.length cp1) := (B3.out.cell (p := ⟨b1, o1 + j * 14 + 13, none⟩) hb2).trans Y13.out
      have N3 := Lib.hid (HN.out.trans ((B2.out.trans (B3.out.mono B2.out.size)).mono HN.out.size))
      have XR3 := Lib.hid (XR.out.below (B2.out.trans (B3.out.mono B2.out.size)))
      go_wp2_with fail
      rw [HK13.out]
      refine (heldIntS_l _ _ (K + 13) V3 XR3.out hidb hKK).mono ?_
      rintro e w4 ⟨rfl, rfl⟩
      rw [show ((K + 13 + o.ids.length : Nat) : Int) = ((omE k0 (os.take (j + 1)) : Nat) : Int) by rw [HE.out]]
      have hnn : ¬ (((omE k0 (os.take (j + 1)) : Nat) : Int) < 0) := Int.not_lt.2 (Int.natCast_nonneg _)
      clear w1 w2 w3 w4 w5 w6 w7 w8 w9 w10 w11 w12 w13 hrem b10a b10b
      go_wp2
      go_roundw
      case rel => exact ⟨j + 1, hlt, by go_num, rfl, N3⟩
      case measure => (simp [intOf]; try omega)
    · obtain rfl : j = n := by omega
      have HE : Hid (os.take j = os) := Lib.hid (List.take_of_length_le (by have := HL.out; omega))
      rw [HE.out]
      go_wp2
      go_ret
      exact ⟨rfl, HN.out⟩
set_option maxRecDepth 100000 in
set_option maxHeartbeats 1600000 in
theorem markSeg_l (x : SD) (v : Value) (n : Nat) (ivs : List Value) (k0 B B2 : Nat) (w : World) (h : ObO w B v n x.ops ivs) (hap : Apt v ivs) (hB : B ≤ w.heap.size) (hB2 : B2 ≤ w.heap.size) (hv : ∀ g, v.ownBlock = some g → g < B2) (hvs : ∀ a ∈ ivs, ∀ g, a.ownBlock = some g → g < B2)
    (hk1 : 1 ≤ k0) (hk : k0 + 13 * n + sumO x.ops ≤ 4294967296) :
    Calls Try.prog 32 #[vx x v, .int .i64 (k0 : Int)] w fun e w' => e = .returned (.int .i64 ((omE k0 x.ops : Nat) : Int)) ∧ ObO w' B v n (omL k0 x.ops) ivs ∧ Wth B B2 w w' := by
  obtain ⟨A, ca, rfl, _⟩ := h.rd.shape
  have H := Lib.hid h
  have HAP := Lib.hid hap
  have HV := Lib.hid hv
  have HVS := Lib.hid hvs
  clear h hap hv hvs
  go_enter Try.func32, Try.ntmps32
  go_upto_region 1 with (fail)
  obtain ⟨W, hW⟩ : ∃ W, W = w.alloc (.cells (vxC x (.slice A n ca)).toArray 37) := ⟨_, rfl⟩
  change Code.wp _ _ _ _ (w.alloc (.cells (vxC x (.slice A n ca)).toArray 37))
  rw [← hW]
  have L0 := Lib.hid ((Below.refl w.heap.size w).alloc (Nat.le_refl _) (.cells (vxC x (.slice A n ca)).toArray 37))
  have X1 := Lib.hid (Bx.new w (vxC x (.slice A n ca)).toArray 37)
  rw [← hW] at L0 X1
  clear hW
  have x7 : W.cell? ⟨w.heap.size, 7, none⟩ = some (.slice A n ca) := X1.out.2 7 _ rfl
  go_wp2_with fail
  refine (markOptS_l _ n x.ops ivs k0 B B2 W (H.out.below L0.out) HAP.out (Nat.le_trans hB L0.out.size) (Nat.le_trans hB2 L0.out.size) HV.out HVS.out hk1 hk).mono ?_
  rintro e w2 ⟨rfl, ho, hw⟩
  have HO := Lib.hid ho
  have HW := Lib.hid ((Wth.of_below (B := B) (B2 := B2) L0.out).trans hw)
  clear ho hw x7
  go_wp2
  go_ret
  exact ⟨rfl, HO.out, HW.out⟩
set_option maxRecDepth 100000 in
set_option maxHeartbeats 1600000 in
theorem heldSeg_l (x : SD) (v : Value) (n : Nat) (os : List OD) (ivs : List Value) (k0 : Nat) (w : World) (h : RdO w v n (omL k0 os) ivs) (hk1 : 1 ≤ k0) (hk : k0 + 13 * n + sumO os ≤ 4294967296) :
    Calls Try.prog 50 #[vx x v, .int .i64 (k0 : Int)] w fun e w' => e = .returned (.int .i64 ((omE k0 os : Nat) : Int)) ∧ Below w.heap.size w w' := by
  obtain ⟨A, ca, rfl, _⟩ := h.shape
  have H := Lib.hid h
  clear h
  go_enter Try.func50, Try.ntmps50
  go_upto_region 1 with (fail)
  obtain ⟨W, hW⟩ : ∃ W, W = w.alloc (.cells (vxC x (.slice A n ca)).toArray 37) := ⟨_, rfl⟩
  change Code.wp _ _ _ _ (w.alloc (.cells (vxC x (.slice A n ca)).toArray 37))
  rw [← hW]
  have L0 := Lib.hid ((Below.refl w.heap.size w).alloc (Nat.le_refl _) (.cells (vxC x (.slice A n ca)).toArray 37))
  have X1 := Lib.hid (Bx.new w (vxC x (.slice A n ca)).toArray 37)
  rw [← hW] at L0 X1
  clear hW
  have x7 : W.cell? ⟨w.heap.size, 7, none⟩ = some (.slice A n ca) := X1.out.2 7 _ rfl
  go_wp2_with fail
  refine (heldOptS_l _ n os ivs k0 W (H.out.below L0.out) hk1 hk).mono ?_
  rintro e w2 ⟨rfl, hb⟩
  have HB := Lib.hid (L0.out.trans (hb.mono L0.out.size))
  have hnn : ¬ (((omE k0 os : Nat) : Int) < 0) := by omega
  clear hb x7
  go_wp2
  go_ret
  exact ⟨rfl, HB.out⟩
end Go.Proofs.Ytkgbkgonlopciaa

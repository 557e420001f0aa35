/- The walk of the law on figures. -/
import Derived.Test.YtpfhhmlbciojaaaProg
import Derived.Test.YtpfhhmlbciojaaaK
import Derived.Test.YtpfhhmlbciojaaaK2
import Derived.Test.YtpfhhmlbciojaaaK3
import Derived.Test.YtpfhhmlbciojaaaK4
import Derived.Test.YtpfhhmlbciojaaaP3
import Derived.Test.YtpfhhmlbciojaaaA1
import Derived.Test.YtpfhhmlbciojaaaA3
import Derived.Test.YtpfhhmlbciojaaaA6
import Derived.Test.YtpfhhmlbciojaaaA7
import Derived.Test.YtpfhhmlbciojaaaD4
import Derived.Test.YtpfhhmlbciojaaaM2
import Derived.StillTailTactics
import Derived.Deep.RegionHeld3
import Derived.BigQuiet
import Derived.Deep.QuietTactic
import Derived.Outline
namespace Go.Proofs.Ytpfhhmlbciojaaa
open Go.RowKit
set_option linter.unusedVariables false
set_option linter.unusedSimpArgs false

theorem decL_len (n : Nat) : (decL (n : Int)).length ≤ 20 := by
  unfold decL
  rw [if_neg (by omega)]
  have := decD_len n
  simpa using this
theorem fig_below {w w1 w2 : World} {g : Nat} {x y z : Value} (h : w1.cell? ⟨g, 5, none⟩ = some x ∧ w1.cell? ⟨g, 6, none⟩ = some y ∧ w1.cell? ⟨g, 7, none⟩ = some z ∧ Below w.heap.size w w1 ∧ g < w1.heap.size) (hb : Below w1.heap.size w1 w2) :
    w2.cell? ⟨g, 5, none⟩ = some x ∧ w2.cell? ⟨g, 6, none⟩ = some y ∧ w2.cell? ⟨g, 7, none⟩ = some z ∧ Below w.heap.size w w2 ∧ g < w2.heap.size :=
  ⟨(hb.cell (p := ⟨g, 5, none⟩) h.2.2.2.2).trans h.1, (hb.cell (p := ⟨g, 6, none⟩) h.2.2.2.2).trans h.2.1, (hb.cell (p := ⟨g, 7, none⟩) h.2.2.2.2).trans h.2.2.1, h.2.2.2.1.trans (hb.mono h.2.2.2.1.size), Nat.lt_of_lt_of_le h.2.2.2.2 hb.size⟩
theorem fig_alloc {w w1 : World} {g : Nat} {x y z : Value} (h : w1.cell? ⟨g, 5, none⟩ = some x ∧ w1.cell? ⟨g, 6, none⟩ = some y ∧ w1.cell? ⟨g, 7, none⟩ = some z ∧ Below w.heap.size w w1 ∧ g < w1.heap.size) (o : Obj) :
    (w1.alloc o).cell? ⟨g, 5, none⟩ = some x ∧ (w1.alloc o).cell? ⟨g, 6, none⟩ = some y ∧ (w1.alloc o).cell? ⟨g, 7, none⟩ = some z ∧ Below w.heap.size w (w1.alloc o) ∧ g < (w1.alloc o).heap.size :=
  fig_below h ((Below.refl _ w1).alloc (Nat.le_refl _) o)
theorem fig_allocd {w w1 : World} {g : Nat} {x y z : Value} (h : w1.cell? ⟨g, 5, none⟩ = some x ∧ w1.cell? ⟨g, 6, none⟩ = some y ∧ w1.cell? ⟨g, 7, none⟩ = some z ∧ Below w.heap.size w w1 ∧ g < w1.heap.size) (o : Obj) :
    (w1.alloc o).drew.cell? ⟨g, 5, none⟩ = some x ∧ (w1.alloc o).drew.cell? ⟨g, 6, none⟩ = some y ∧ (w1.alloc o).drew.cell? ⟨g, 7, none⟩ = some z ∧ Below w.heap.size w (w1.alloc o).drew ∧ g < (w1.alloc o).drew.heap.size :=
  ⟨(fig_alloc h o).1, (fig_alloc h o).2.1, (fig_alloc h o).2.2.1, (fig_alloc h o).2.2.2.1.drew, (fig_alloc h o).2.2.2.2⟩
theorem conv2_at (w : World) (g : Nat) (U V : Nat) (hU : U < 256) (hV : V < 256) (h0 : w.cell? ⟨g, 0, none⟩ = some (.int .u8 (U : Int))) (h1 : w.cell? ⟨g, 1, none⟩ = some (.int .u8 (V : Int))) :
    Sem.run Try.prog (convert 22 9 (.slice (some ⟨g, 0, none⟩) 2 2)) w = .ok (.string (str [UInt8.ofNat U, UInt8.ofNat V])) w := by
  have e1 : Value.int .u8 (U : Int) = vb (UInt8.ofNat U) := by rw [vb_small (U : Int) (by omega) (by omega)]; rfl
  have e2 : Value.int .u8 (V : Int) = vb (UInt8.ofNat V) := by rw [vb_small (V : Int) (by omega) (by omega)]; rfl
  refine run_convert_bytes_back w 22 9 5 ⟨g, 0, none⟩ 2 [UInt8.ofNat U, UInt8.ofNat V] Try.underlying22 Try.underlying5 Try.underlying9 (fun j hj => ?_)
  match j, hj with
  | 0, _ => exact h0.trans (by rw [e1]; rfl)
  | 1, _ => exact h1.trans (by rw [e2]; rfl)
theorem conv2_new (U V : Nat) (hU : U < 256) (hV : V < 256) (w : World) :
    Sem.run Try.prog (convert 22 9 (.slice (some ⟨w.heap.size, 0, none⟩) 2 2)) (w.alloc (.cells #[.int .u8 (U : Int), .int .u8 (V : Int)] 5)) = .ok (.string (str [UInt8.ofNat U, UInt8.ofNat V])) (w.alloc (.cells #[.int .u8 (U : Int), .int .u8 (V : Int)] 5)) :=
  conv2_at _ _ U V hU hV (new_cells w _ _ 0 _ rfl) (new_cells w _ _ 1 _ rfl)
theorem conv2_later {U V : Nat} (hU : U < 256) (hV : V < 256) {w w2 : World} (hb : Below (w.alloc (.cells #[.int .u8 (U : Int), .int .u8 (V : Int)] 5)).heap.size (w.alloc (.cells #[.int .u8 (U : Int), .int .u8 (V : Int)] 5)) w2) :
    Sem.run Try.prog (convert 22 9 (.slice (some ⟨w.heap.size, 0, none⟩) 2 2)) w2 = .ok (.string (str [UInt8.ofNat U, UInt8.ofNat V])) w2 :=
  conv2_at _ _ U V hU hV ((hb.cell (p := ⟨w.heap.size, 0, none⟩) (by simp)).trans (new_cells w _ _ 0 _ rfl)) ((hb.cell (p := ⟨w.heap.size, 1, none⟩) (by simp)).trans (new_cells w _ _ 1 _ rfl))
theorem conv2_laterd {U V : Nat} (hU : U < 256) (hV : V < 256) {w w2 : World} (hb : Below (w.alloc (.cells #[.int .u8 (U : Int), .int .u8 (V : Int)] 5)).drew.heap.size (w.alloc (.cells #[.int .u8 (U : Int), .int .u8 (V : Int)] 5)).drew w2) :
    Sem.run Try.prog (convert 22 9 (.slice (some ⟨w.heap.size, 0, none⟩) 2 2)) w2 = .ok (.string (str [UInt8.ofNat U, UInt8.ofNat V])) w2 := conv2_later (w := w.drew) hU hV hb
set_option maxRecDepth 100000 in
set_option maxHeartbeats 1000000 in
theorem law_FnFigures (v : Value) (n : Nat) (xs : List Int) (w : World) (hv : Rd w 1 v n (xs.map (Value.int .u8))) (hx : ∀ x ∈ xs, (Lit.int .u8 x).wf = true) :
    Calls Try.prog 4 #[v] w fun e w' => e = .returned (.bool true) ∧ Below w.heap.size w w' := by
  have HV := Lib.hid hv
  have HX := Lib.hid (u8_range hx)
  clear hv hx
  by_cases hb : n ≤ 1048576
  case neg =>
    go_enter Try.func4, Try.ntmps4
    go_wp2_with fail
    refine (big_l v n _ _ HV.out).mono ?_
    rintro e w1 ⟨rfl, rfl⟩
    go_wp2
    go_ret
    exact ⟨rfl, Below.refl _ _⟩
  have HB : Hid (decide (1048576 < (n : Int)) = false) := Lib.hid (by simp; omega)
  have HN := Lib.hid hb
  clear hb
  go_enter Try.func4, Try.ntmps4
  go_wp2_with fail
  refine (big_l v n _ _ HV.out).mono ?_
  rintro e w1 ⟨rfl, rfl⟩
  rw [HB.out]
  go_wp2_with fail
  refine (drawPlaces_s v n xs _ HV.out HX.out HN.out).mono ?_
  rintro e w1 ⟨g, cap, l, hl, hl4, rfl, ho, hb1⟩
  match l, hl with
  | [a0, a1, a2, a3, a4, a5, a6, a7, a8, a9, a10, a11], _ =>
  have b0 : a0 < 10000 := hl4 a0 (by simp)
  have b1 : a1 < 10000 := hl4 a1 (by simp)
  have b2 : a2 < 10000 := hl4 a2 (by simp)
  have b3 : a3 < 10000 := hl4 a3 (by simp)
  have b4 : a4 < 10000 := hl4 a4 (by simp)
  have b5 : a5 < 10000 := hl4 a5 (by simp)
  have b6 : a6 < 10000 := hl4 a6 (by simp)
  have b7 : a7 < 10000 := hl4 a7 (by simp)
  have c0 : w1.cell? ⟨g, 0, none⟩ = some (.int .i64 (a0 : Int)) := (ho.cellAt rfl).1
  have c1 : w1.cell? ⟨g, 1, none⟩ = some (.int .i64 (a1 : Int)) := (ho.cellAt rfl).1
  have c2 : w1.cell? ⟨g, 2, none⟩ = some (.int .i64 (a2 : Int)) := (ho.cellAt rfl).1
  have c3 : w1.cell? ⟨g, 3, none⟩ = some (.int .i64 (a3 : Int)) := (ho.cellAt rfl).1
  have c4 : w1.cell? ⟨g, 4, none⟩ = some (.int .i64 (a4 : Int)) := (ho.cellAt rfl).1
  have c5 : w1.cell? ⟨g, 5, none⟩ = some (.int .i64 (a5 : Int)) := (ho.cellAt rfl).1
  have c6 : w1.cell? ⟨g, 6, none⟩ = some (.int .i64 (a6 : Int)) := (ho.cellAt rfl).1
  have c7 : w1.cell? ⟨g, 7, none⟩ = some (.int .i64 (a7 : Int)) := (ho.cellAt rfl).1
  have hgl := (ho.lt g rfl).2
  have L1 := Lib.hid hb1
  clear ho hb1 hl4
  go_wp2
  obtain ⟨U, hU⟩ : ∃ U, U = a6 % 256 := ⟨_, rfl⟩
  obtain ⟨V, hV⟩ : ∃ V, V = a7 % 256 := ⟨_, rfl⟩
  have HU : IntKind.u8.wrap (a6 : Int) = (U : Int) := by simp [IntKind.wrap, IntKind.bits, IntKind.signed]; omega
  have HV' : IntKind.u8.wrap (a7 : Int) = (V : Int) := by simp [IntKind.wrap, IntKind.bits, IntKind.signed]; omega
  have hU2 : U < 256 := by omega
  have hV2 : V < 256 := by omega
  clear hU hV
  obtain ⟨H, hH⟩ : ∃ H, H = str (decL (a5 : Int)) := ⟨_, rfl⟩
  obtain ⟨T, hT⟩ : ∃ T, T = str [UInt8.ofNat U, UInt8.ofNat V] := ⟨_, rfl⟩
  have sH : H.size ≤ 20 := by rw [hH, str_size]; exact decL_len a5
  have sT : T.size = 2 := by rw [hT, str_size]; rfl
  obtain ⟨X, hX⟩ : ∃ X, X = H ++ T := ⟨_, rfl⟩
  have sX : X.size = H.size + 2 := by rw [hX, ByteArray.size_append, sT]
  obtain ⟨q, hq⟩ : ∃ q, q = H.size := ⟨_, rfl⟩
  rw [← hq] at sX sH
  have HQ : H.size = q := hq.symm
  have HXx := Lib.hid hX
  have HH := Lib.hid hH
  have HT := Lib.hid hT
  clear hX hH hT hq
  obtain ⟨Z, hZ⟩ : ∃ Z, Z = str (hexL X.data.toList) := ⟨_, rfl⟩
  have uz := unhex_back X (by omega)
  rw [← hZ] at uz
  have UZ := Lib.hid uz
  have hXl : X.data.toList.length = X.size := by simp
  have sZ : Z.size = 2 * (q + 2) := by rw [hZ, str_size, hexL_len, hXl, sX]
  have HZ := Lib.hid hZ
  clear hZ uz hXl
  obtain ⟨N, hN⟩ : ∃ N, N = a0 * 10000 + a1 := ⟨_, rfl⟩
  have hNi : (a0 : Int) * 10000 + (a1 : Int) = (N : Int) := by omega
  have hN4 : N ≤ 100000000 := by omega
  have hW : IntKind.i64.wrap (IntKind.i64.wrap ((a0 : Int) * 10000) + (a1 : Int)) = (N : Int) := by rw [IntWalk.i64_in ((a0 : Int) * 10000) (by omega), IntWalk.i64_in _ (by omega), hNi]
  have kN := Lib.hid (WalkArith.wf_i64 (n := (N : Int)) (by omega))
  obtain ⟨E, hE⟩ : ∃ E, E = str (decL (N : Int)) := ⟨_, rfl⟩
  have dz := dec_back N hN4
  rw [← hE] at dz
  have DZ := Lib.hid dz
  have sE : E.size ≤ 20 := by rw [hE, str_size]; exact decL_len N
  have HEe := Lib.hid hE
  clear hE dz hN
  obtain ⟨bq, hbq⟩ : ∃ b, b = broughtN ((a2 : Int) - 5000) (-(a3 : Int)) (a4 : Int) := ⟨_, rfl⟩
  have hbr : -(a3 : Int) ≤ bq ∧ bq ≤ (a4 : Int) := by
    rw [hbq]; unfold broughtN; split
    · omega
    · split <;> omega
  have hbb : broughtN bq (-(a3 : Int)) (a4 : Int) = bq := by
    unfold broughtN; rw [if_neg (by omega), if_neg (by omega)]
  have HBR := Lib.hid hbr
  have HBB := Lib.hid hbb
  have HBQ := Lib.hid hbq
  clear hbr hbb hbq
  have hcv := conv2_new U V hU2 hV2
  rw [← HT.out] at hcv
  have hcw : ∀ w : World, Sem.run Try.prog (convert 22 9 (.slice (some ⟨w.heap.size, 0, none⟩) 2 2)) (w.alloc (.cells #[.int .u8 (U : Int), .int .u8 (V : Int)] 5)).drew = .ok (.string T) (w.alloc (.cells #[.int .u8 (U : Int), .int .u8 (V : Int)] 5)).drew := fun w => hcv w.drew
  have k5 := WalkArith.wf_i64 (n := (a5 : Int)) (by omega)
  refine wp_region_held_drew (S := fun w' => w'.cell? ⟨g, 5, none⟩ = some (.int .i64 (a5 : Int)) ∧ w'.cell? ⟨g, 6, none⟩ = some (.int .i64 (a6 : Int)) ∧ w'.cell? ⟨g, 7, none⟩ = some (.int .i64 (a7 : Int)) ∧ Below w1.heap.size w1 w' ∧ g < w'.heap.size) (by kernel_rfl) ⟨c5, c6, c7, (Below.refl _ w1).drew, hgl⟩ (fun hHeld => ?_)
  refine wpAnyH_take (i := 0) (v := ?_) rfl (by kernel_rfl) (by kernel_rfl) (by kernel_rfl) (fun _ _ _ h => h) (Or.inl ⟨by rfl, ?_⟩) (by assumption) ?_
  rotate_left
  · (intro w hSw; (try dsimp only at hSw); go_simp; try (with_reducible rfl))
  try simp only [Act.put, List.setIfInBounds_toArray, List.set_cons_zero, List.set_cons_succ]
  refine wpAnyH_take (i := 1) (v := ?_) rfl (by kernel_rfl) (by kernel_rfl) (by kernel_rfl) (fun _ _ _ h => h) (Or.inl ⟨by rfl, ?_⟩) (by assumption) ?_
  rotate_left
  · (intro w hSw; (try dsimp only at hSw); go_simp; try (with_reducible rfl))
  try simp only [Act.put, List.setIfInBounds_toArray, List.set_cons_zero, List.set_cons_succ]
  refine wpAnyH_take (i := 2) (v := ?_) rfl (by kernel_rfl) (by kernel_rfl) (by kernel_rfl) (fun _ _ _ h => h) (Or.inl ⟨by rfl, ?_⟩) (by assumption) ?_
  rotate_left
  · (intro w hSw; (try dsimp only at hSw); go_simp; try (with_reducible rfl))
  try simp only [Act.put, List.setIfInBounds_toArray, List.set_cons_zero, List.set_cons_succ]
  refine wpAnyH_take (i := 4) (v := ?_) rfl (by kernel_rfl) (by kernel_rfl) (by kernel_rfl) (fun _ _ _ h => h) (Or.inl ⟨by rfl, ?_⟩) (by assumption) ?_
  rotate_left
  · (intro w hSw; (try dsimp only at hSw); go_simp; try (with_reducible rfl))
  try simp only [Act.put, List.setIfInBounds_toArray, List.set_cons_zero, List.set_cons_succ]
  refine wpAnyH_take (i := 5) (v := ?_) rfl (by kernel_rfl) (by kernel_rfl) (by kernel_rfl) (fun _ _ _ h => h) (Or.inl ⟨by rfl, ?_⟩) (by assumption) ?_
  rotate_left
  · (intro w hSw; (try dsimp only at hSw); go_simp; try (with_reducible rfl))
  try simp only [Act.put, List.setIfInBounds_toArray, List.set_cons_zero, List.set_cons_succ]
  refine wpAnyH_take (i := 6) (v := ?_) rfl (by kernel_rfl) (by kernel_rfl) (by kernel_rfl) (fun _ _ _ h => h) (Or.inl ⟨by rfl, ?_⟩) (by assumption) ?_
  rotate_left
  · (intro w hSw; (try dsimp only at hSw); go_simp; try (with_reducible rfl))
  try simp only [Act.put, List.setIfInBounds_toArray, List.set_cons_zero, List.set_cons_succ]
  refine wpAnyH_take (i := 7) (v := ?_) rfl (by kernel_rfl) (by kernel_rfl) (by kernel_rfl) (fun _ _ _ h => h) (Or.inl ⟨by rfl, ?_⟩) (by assumption) ?_
  rotate_left
  · (intro w hSw; (try dsimp only at hSw); go_simp; try (with_reducible rfl))
  try simp only [Act.put, List.setIfInBounds_toArray, List.set_cons_zero, List.set_cons_succ]
  refine wpAnyH_take (i := 8) (v := ?_) rfl (by kernel_rfl) (by kernel_rfl) (by kernel_rfl) (fun _ _ _ h => h) (Or.inl ⟨by rfl, ?_⟩) (by assumption) ?_
  rotate_left
  · (intro w hSw; (try dsimp only at hSw); go_simp; try (with_reducible rfl))
  try simp only [Act.put, List.setIfInBounds_toArray, List.set_cons_zero, List.set_cons_succ]
  refine wpAnyH_take (i := 9) (v := ?_) rfl (by kernel_rfl) (by kernel_rfl) (by kernel_rfl) (fun _ _ _ h => h) (Or.inl ⟨by rfl, ?_⟩) (by assumption) ?_
  rotate_left
  · (intro w hSw; (try dsimp only at hSw); go_simp; try (with_reducible rfl))
  try simp only [Act.put, List.setIfInBounds_toArray, List.set_cons_zero, List.set_cons_succ]
  refine wpAnyH_take (i := 10) (v := ?_) rfl (by kernel_rfl) (by kernel_rfl) (by kernel_rfl) (fun _ _ _ h => h) (Or.inl ⟨by rfl, ?_⟩) (by assumption) ?_
  rotate_left
  · (intro w hSw; (try dsimp only at hSw); go_simp; try (with_reducible rfl))
  try simp only [Act.put, List.setIfInBounds_toArray, List.set_cons_zero, List.set_cons_succ]
  refine wpAnyH_take (i := 11) (v := ?_) rfl (by kernel_rfl) (by kernel_rfl) (by kernel_rfl) (fun _ _ _ h => h) (Or.inl ⟨by rfl, ?_⟩) (by assumption) ?_
  rotate_left
  · (intro w hSw; (try dsimp only at hSw); go_simp; try (with_reducible rfl))
  try simp only [Act.put, List.setIfInBounds_toArray, List.set_cons_zero, List.set_cons_succ]
  refine wpAnyH_ready (rs := [3, 12]) (by kernel_rfl) (by simp) ?_
  refine AllReadyH.cons rfl (fun K hK => ?_) (AllReadyH.cons rfl (fun K hK => ?_) AllReadyH.nil)
  · skip
    go_simp
    (go_at_call 12; refine (decimal_i (a5 : Int) _ k5).mono ?_; rintro e w' ⟨rfl, hb⟩; rw [← HH.out])
    try go_wp2_with fail
    refine hK.out _ _ ?_ (fun hHeld => ?_)
    · exact fig_below (by assumption) hb
    clear hK K
    try simp only [Act.put, List.setIfInBounds_toArray, List.set_cons_zero, List.set_cons_succ]
    refine wpAnyH_ready (rs := [12]) (by kernel_rfl) (by simp) ?_
    refine AllReadyH.cons rfl (fun K hK => ?_) AllReadyH.nil
    go_simp
    try go_wp2_with fail
    refine hK.out _ _ ?_ (fun hHeld => ?_)
    · exact fig_alloc (by assumption) _
    clear hK K
    try simp only [Act.put, List.setIfInBounds_toArray, List.set_cons_zero, List.set_cons_succ]
    refine wpAnyH_ready (rs := [13]) (by kernel_rfl) (by simp) ?_
    refine AllReadyH.cons rfl (fun K hK => ?_) AllReadyH.nil
    go_simp
    try go_wp2_with fail
    refine hK.out _ _ ?_ (fun hHeld => ?_)
    · assumption
    clear hK K
    try simp only [Act.put, List.setIfInBounds_toArray, List.set_cons_zero, List.set_cons_succ]
    refine wpAnyH_ready (rs := [14]) (by kernel_rfl) (by simp) ?_
    refine AllReadyH.cons rfl (fun K hK => ?_) AllReadyH.nil
    go_simp
    try go_wp2_with fail
    refine hK.out _ _ ?_ (fun hHeld => ?_)
    · assumption
    clear hK K
    try simp only [Act.put, List.setIfInBounds_toArray, List.set_cons_zero, List.set_cons_succ]
    refine wpAnyH_take (i := 15) (v := ?_) rfl (by kernel_rfl) (by kernel_rfl) (by kernel_rfl) (fun _ _ _ h => h) (Or.inl ⟨by rfl, ?_⟩) (by assumption) ?_
    rotate_left
    · (intro w hSw; (try dsimp only at hSw); go_simp; try (with_reducible rfl))
    try simp only [Act.put, List.setIfInBounds_toArray, List.set_cons_zero, List.set_cons_succ]
    refine wpAnyH_done (by kernel_rfl) ?_ _
    obtain ⟨s5, s6, s7, sB, sg⟩ := ‹_ ∧ _ ∧ _ ∧ Below w1.heap.size w1 _ ∧ _›
    clear hcv hcw
    try clear hcv2
    try clear hb
    have d0 := (sB.cell (p := ⟨g, 0, none⟩) hgl).trans c0
    have d1 := (sB.cell (p := ⟨g, 1, none⟩) hgl).trans c1
    have d2 := (sB.cell (p := ⟨g, 2, none⟩) hgl).trans c2
    have d3 := (sB.cell (p := ⟨g, 3, none⟩) hgl).trans c3
    have d4 := (sB.cell (p := ⟨g, 4, none⟩) hgl).trans c4
    have L2 := Lib.hid (L1.out.trans (sB.mono L1.out.size))
    clear sB s5 s6 s7 c0 c1 c2 c3 c4 c5 c6 c7 hgl
    rw [← HXx.out]
    go_wp2_with fail
    refine (hex_i X _ (by omega)).mono ?_
    rintro e w3 ⟨rfl, hb3⟩
    have L3 := Lib.hid (L2.out.trans (hb3.mono L2.out.size))
    have e0 := (hb3.cell (p := ⟨g, 0, none⟩) sg).trans d0
    have e1 := (hb3.cell (p := ⟨g, 1, none⟩) sg).trans d1
    have e2 := (hb3.cell (p := ⟨g, 2, none⟩) sg).trans d2
    have e3 := (hb3.cell (p := ⟨g, 3, none⟩) sg).trans d3
    have e4 := (hb3.cell (p := ⟨g, 4, none⟩) sg).trans d4
    have sg3 : g < w3.heap.size := Nat.lt_of_lt_of_le sg hb3.size
    clear hb3 d0 d1 d2 d3 d4 sg
    rw [← HZ.out]
    go_wp2_with fail
    refine (unhex_i Z _ (by omega)).mono ?_
    rintro e w4 ⟨rfl, hb4⟩
    rw [UZ.out.1, UZ.out.2]
    have L4 := Lib.hid (L3.out.trans (hb4.mono L3.out.size))
    have f0 := (hb4.cell (p := ⟨g, 0, none⟩) sg3).trans e0
    have f1 := (hb4.cell (p := ⟨g, 1, none⟩) sg3).trans e1
    have f2 := (hb4.cell (p := ⟨g, 2, none⟩) sg3).trans e2
    have f3 := (hb4.cell (p := ⟨g, 3, none⟩) sg3).trans e3
    have f4 := (hb4.cell (p := ⟨g, 4, none⟩) sg3).trans e4
    have sg4 : g < w4.heap.size := Nat.lt_of_lt_of_le sg3 hb4.size
    clear hb4 e0 e1 e2 e3 e4 sg3
    go_wp2_with fail
    refine wp_region_still_lit (by kernel_rfl) (by kernel_rfl) ?_
    change wpStill _ _ (World.drew w4) (fun a' => Exit.then _ _ Exit.normal a' (World.drew w4)) _ _
    repeat still_step
    refine wpStill_nil ?_
    go_wp2_with fail
    refine (decimal_i (N : Int) _ kN.out).mono ?_
    rintro e w5 ⟨rfl, hb5⟩
    rw [← HEe.out]
    have L5 := Lib.hid (L4.out.drew.trans (hb5.mono L4.out.size))
    have h2 := (hb5.cell (p := ⟨g, 2, none⟩) sg4).trans f2
    have h3 := (hb5.cell (p := ⟨g, 3, none⟩) sg4).trans f3
    have h4 := (hb5.cell (p := ⟨g, 4, none⟩) sg4).trans f4
    have sg5 : g < w5.heap.size := Nat.lt_of_lt_of_le sg4 hb5.size
    clear hb5 f0 f1 f2 f3 f4 sg4
    go_wp2_with fail
    refine (readDecimal_i E _ (by omega)).mono ?_
    rintro e w6 ⟨rfl, hb6⟩
    rw [DZ.out.1, DZ.out.2]
    have L6 := Lib.hid (L5.out.trans (hb6.mono L5.out.size))
    have k2 := (hb6.cell (p := ⟨g, 2, none⟩) sg5).trans h2
    have k3 := (hb6.cell (p := ⟨g, 3, none⟩) sg5).trans h3
    have k4 := (hb6.cell (p := ⟨g, 4, none⟩) sg5).trans h4
    clear hb6 h2 h3 h4 sg5
    have m1 : IntKind.i64.wrap ((a2 : Int) - 5000) = (a2 : Int) - 5000 := IntWalk.i64_in _ (by omega)
    have m2 : IntKind.i64.wrap (-(a3 : Int)) = -(a3 : Int) := IntWalk.i64_in _ (by omega)
    go_wp2_with fail
    go_quiet ((go_at_call 18; exact (brought_i _ _ _ _).mono fun _ _ ⟨h1, h2⟩ => ⟨h1.trans (by rw [← HBQ.out]), _, h2.symm⟩))
    have p1 := HBR.out.1
    have p2 := HBR.out.2
    have m3 : IntKind.i64.wrap (2 * ((q : Int) + 2)) = 2 * ((q : Int) + 2) := IntWalk.i64_in _ (by omega)
    have m4 : (2 * (((q + 2 : Nat)) : Int)) = 2 * ((q : Int) + 2) := by omega
    go_wp2_with fail
    go_quiet ((go_at_call 18; exact (brought_i _ _ _ _).mono fun _ _ ⟨h1, h2⟩ => ⟨h1.trans (by rw [HBB.out]), _, h2.symm⟩))
    go_wp2
    go_ret
    exact ⟨rfl, below_drewN (below_drewN L6.out _) _⟩
  · skip
    go_simp
    try go_wp2_with fail
    refine hK.out _ _ ?_ (fun hHeld => ?_)
    · exact fig_allocd ⟨c5, c6, c7, Below.refl _ _, hgl⟩ _
    clear hK K
    try simp only [Act.put, List.setIfInBounds_toArray, List.set_cons_zero, List.set_cons_succ]
    refine wpAnyH_ready (rs := [3, 13]) (by kernel_rfl) (by simp) ?_
    refine AllReadyH.cons rfl (fun K hK => ?_) (AllReadyH.cons rfl (fun K hK => ?_) AllReadyH.nil)
    · skip
      go_simp
      (go_at_call 12; refine (decimal_i (a5 : Int) _ k5).mono ?_; rintro e w' ⟨rfl, hb⟩; rw [← HH.out]; have hcv2 := conv2_laterd (w := w1) hU2 hV2 hb; rw [← HT.out] at hcv2)
      try go_wp2_with fail
      refine hK.out _ _ ?_ (fun hHeld => ?_)
      · exact fig_below (by assumption) hb
      clear hK K
      try simp only [Act.put, List.setIfInBounds_toArray, List.set_cons_zero, List.set_cons_succ]
      refine wpAnyH_ready (rs := [13]) (by kernel_rfl) (by simp) ?_
      refine AllReadyH.cons rfl (fun K hK => ?_) AllReadyH.nil
      go_simp
      try go_wp2_with fail
      refine hK.out _ _ ?_ (fun hHeld => ?_)
      · assumption
      clear hK K
      try simp only [Act.put, List.setIfInBounds_toArray, List.set_cons_zero, List.set_cons_succ]
      refine wpAnyH_ready (rs := [14]) (by kernel_rfl) (by simp) ?_
      refine AllReadyH.cons rfl (fun K hK => ?_) AllReadyH.nil
      go_simp
      try go_wp2_with fail
      refine hK.out _ _ ?_ (fun hHeld => ?_)
      · assumption
      clear hK K
      try simp only [Act.put, List.setIfInBounds_toArray, List.set_cons_zero, List.set_cons_succ]
      refine wpAnyH_take (i := 15) (v := ?_) rfl (by kernel_rfl) (by kernel_rfl) (by kernel_rfl) (fun _ _ _ h => h) (Or.inl ⟨by rfl, ?_⟩) (by assumption) ?_
      rotate_left
      · (intro w hSw; (try dsimp only at hSw); go_simp; try (with_reducible rfl))
      try simp only [Act.put, List.setIfInBounds_toArray, List.set_cons_zero, List.set_cons_succ]
      refine wpAnyH_done (by kernel_rfl) ?_ _
      obtain ⟨s5, s6, s7, sB, sg⟩ := ‹_ ∧ _ ∧ _ ∧ Below w1.heap.size w1 _ ∧ _›
      clear hcv hcw
      try clear hcv2
      try clear hb
      have d0 := (sB.cell (p := ⟨g, 0, none⟩) hgl).trans c0
      have d1 := (sB.cell (p := ⟨g, 1, none⟩) hgl).trans c1
      have d2 := (sB.cell (p := ⟨g, 2, none⟩) hgl).trans c2
      have d3 := (sB.cell (p := ⟨g, 3, none⟩) hgl).trans c3
      have d4 := (sB.cell (p := ⟨g, 4, none⟩) hgl).trans c4
      have L2 := Lib.hid (L1.out.trans (sB.mono L1.out.size))
      clear sB s5 s6 s7 c0 c1 c2 c3 c4 c5 c6 c7 hgl
      rw [← HXx.out]
      go_wp2_with fail
      refine (hex_i X _ (by omega)).mono ?_
      rintro e w3 ⟨rfl, hb3⟩
      have L3 := Lib.hid (L2.out.trans (hb3.mono L2.out.size))
      have e0 := (hb3.cell (p := ⟨g, 0, none⟩) sg).trans d0
      have e1 := (hb3.cell (p := ⟨g, 1, none⟩) sg).trans d1
      have e2 := (hb3.cell (p := ⟨g, 2, none⟩) sg).trans d2
      have e3 := (hb3.cell (p := ⟨g, 3, none⟩) sg).trans d3
      have e4 := (hb3.cell (p := ⟨g, 4, none⟩) sg).trans d4
      have sg3 : g < w3.heap.size := Nat.lt_of_lt_of_le sg hb3.size
      clear hb3 d0 d1 d2 d3 d4 sg
      rw [← HZ.out]
      go_wp2_with fail
      refine (unhex_i Z _ (by omega)).mono ?_
      rintro e w4 ⟨rfl, hb4⟩
      rw [UZ.out.1, UZ.out.2]
      have L4 := Lib.hid (L3.out.trans (hb4.mono L3.out.size))
      have f0 := (hb4.cell (p := ⟨g, 0, none⟩) sg3).trans e0
      have f1 := (hb4.cell (p := ⟨g, 1, none⟩) sg3).trans e1
      have f2 := (hb4.cell (p := ⟨g, 2, none⟩) sg3).trans e2
      have f3 := (hb4.cell (p := ⟨g, 3, none⟩) sg3).trans e3
      have f4 := (hb4.cell (p := ⟨g, 4, none⟩) sg3).trans e4
      have sg4 : g < w4.heap.size := Nat.lt_of_lt_of_le sg3 hb4.size
      clear hb4 e0 e1 e2 e3 e4 sg3
      go_wp2_with fail
      refine wp_region_still_lit (by kernel_rfl) (by kernel_rfl) ?_
      change wpStill _ _ (World.drew w4) (fun a' => Exit.then _ _ Exit.normal a' (World.drew w4)) _ _
      repeat still_step
      refine wpStill_nil ?_
      go_wp2_with fail
      refine (decimal_i (N : Int) _ kN.out).mono ?_
      rintro e w5 ⟨rfl, hb5⟩
      rw [← HEe.out]
      have L5 := Lib.hid (L4.out.drew.trans (hb5.mono L4.out.size))
      have h2 := (hb5.cell (p := ⟨g, 2, none⟩) sg4).trans f2
      have h3 := (hb5.cell (p := ⟨g, 3, none⟩) sg4).trans f3
      have h4 := (hb5.cell (p := ⟨g, 4, none⟩) sg4).trans f4
      have sg5 : g < w5.heap.size := Nat.lt_of_lt_of_le sg4 hb5.size
      clear hb5 f0 f1 f2 f3 f4 sg4
      go_wp2_with fail
      refine (readDecimal_i E _ (by omega)).mono ?_
      rintro e w6 ⟨rfl, hb6⟩
      rw [DZ.out.1, DZ.out.2]
      have L6 := Lib.hid (L5.out.trans (hb6.mono L5.out.size))
      have k2 := (hb6.cell (p := ⟨g, 2, none⟩) sg5).trans h2
      have k3 := (hb6.cell (p := ⟨g, 3, none⟩) sg5).trans h3
      have k4 := (hb6.cell (p := ⟨g, 4, none⟩) sg5).trans h4
      clear hb6 h2 h3 h4 sg5
      have m1 : IntKind.i64.wrap ((a2 : Int) - 5000) = (a2 : Int) - 5000 := IntWalk.i64_in _ (by omega)
      have m2 : IntKind.i64.wrap (-(a3 : Int)) = -(a3 : Int) := IntWalk.i64_in _ (by omega)
      go_wp2_with fail
      go_quiet ((go_at_call 18; exact (brought_i _ _ _ _).mono fun _ _ ⟨h1, h2⟩ => ⟨h1.trans (by rw [← HBQ.out]), _, h2.symm⟩))
      have p1 := HBR.out.1
      have p2 := HBR.out.2
      have m3 : IntKind.i64.wrap (2 * ((q : Int) + 2)) = 2 * ((q : Int) + 2) := IntWalk.i64_in _ (by omega)
      have m4 : (2 * (((q + 2 : Nat)) : Int)) = 2 * ((q : Int) + 2) := by omega
      go_wp2_with fail
      go_quiet ((go_at_call 18; exact (brought_i _ _ _ _).mono fun _ _ ⟨h1, h2⟩ => ⟨h1.trans (by rw [HBB.out]), _, h2.symm⟩))
      go_wp2
      go_ret
      exact ⟨rfl, below_drewN (below_drewN L6.out _) _⟩
    · skip
      go_simp
      try go_wp2_with fail
      refine hK.out _ _ ?_ (fun hHeld => ?_)
      · assumption
      clear hK K
      try simp only [Act.put, List.setIfInBounds_toArray, List.set_cons_zero, List.set_cons_succ]
      refine wpAnyH_ready (rs := [3]) (by kernel_rfl) (by simp) ?_
      refine AllReadyH.cons rfl (fun K hK => ?_) AllReadyH.nil
      go_simp
      (go_at_call 12; refine (decimal_i (a5 : Int) _ k5).mono ?_; rintro e w' ⟨rfl, hb⟩; rw [← HH.out])
      try go_wp2_with fail
      refine hK.out _ _ ?_ (fun hHeld => ?_)
      · exact fig_below (by assumption) hb
      clear hK K
      try simp only [Act.put, List.setIfInBounds_toArray, List.set_cons_zero, List.set_cons_succ]
      refine wpAnyH_ready (rs := [14]) (by kernel_rfl) (by simp) ?_
      refine AllReadyH.cons rfl (fun K hK => ?_) AllReadyH.nil
      go_simp
      try go_wp2_with fail
      refine hK.out _ _ ?_ (fun hHeld => ?_)
      · assumption
      clear hK K
      try simp only [Act.put, List.setIfInBounds_toArray, List.set_cons_zero, List.set_cons_succ]
      refine wpAnyH_take (i := 15) (v := ?_) rfl (by kernel_rfl) (by kernel_rfl) (by kernel_rfl) (fun _ _ _ h => h) (Or.inl ⟨by rfl, ?_⟩) (by assumption) ?_
      rotate_left
      · (intro w hSw; (try dsimp only at hSw); go_simp; try (with_reducible rfl))
      try simp only [Act.put, List.setIfInBounds_toArray, List.set_cons_zero, List.set_cons_succ]
      refine wpAnyH_done (by kernel_rfl) ?_ _
      obtain ⟨s5, s6, s7, sB, sg⟩ := ‹_ ∧ _ ∧ _ ∧ Below w1.heap.size w1 _ ∧ _›
      clear hcv hcw
      try clear hcv2
      try clear hb
      have d0 := (sB.cell (p := ⟨g, 0, none⟩) hgl).trans c0
      have d1 := (sB.cell (p := ⟨g, 1, none⟩) hgl).trans c1
      have d2 := (sB.cell (p := ⟨g, 2, none⟩) hgl).trans c2
      have d3 := (sB.cell (p := ⟨g, 3, none⟩) hgl).trans c3
      have d4 := (sB.cell (p := ⟨g, 4, none⟩) hgl).trans c4
      have L2 := Lib.hid (L1.out.trans (sB.mono L1.out.size))
      clear sB s5 s6 s7 c0 c1 c2 c3 c4 c5 c6 c7 hgl
      rw [← HXx.out]
      go_wp2_with fail
      refine (hex_i X _ (by omega)).mono ?_
      rintro e w3 ⟨rfl, hb3⟩
      have L3 := Lib.hid (L2.out.trans (hb3.mono L2.out.size))
      have e0 := (hb3.cell (p := ⟨g, 0, none⟩) sg).trans d0
      have e1 := (hb3.cell (p := ⟨g, 1, none⟩) sg).trans d1
      have e2 := (hb3.cell (p := ⟨g, 2, none⟩) sg).trans d2
      have e3 := (hb3.cell (p := ⟨g, 3, none⟩) sg).trans d3
      have e4 := (hb3.cell (p := ⟨g, 4, none⟩) sg).trans d4
      have sg3 : g < w3.heap.size := Nat.lt_of_lt_of_le sg hb3.size
      clear hb3 d0 d1 d2 d3 d4 sg
      rw [← HZ.out]
      go_wp2_with fail
      refine (unhex_i Z _ (by omega)).mono ?_
      rintro e w4 ⟨rfl, hb4⟩
      rw [UZ.out.1, UZ.out.2]
      have L4 := Lib.hid (L3.out.trans (hb4.mono L3.out.size))
      have f0 := (hb4.cell (p := ⟨g, 0, none⟩) sg3).trans e0
      have f1 := (hb4.cell (p := ⟨g, 1, none⟩) sg3).trans e1
      have f2 := (hb4.cell (p := ⟨g, 2, none⟩) sg3).trans e2
      have f3 := (hb4.cell (p := ⟨g, 3, none⟩) sg3).trans e3
      have f4 := (hb4.cell (p := ⟨g, 4, none⟩) sg3).trans e4
      have sg4 : g < w4.heap.size := Nat.lt_of_lt_of_le sg3 hb4.size
      clear hb4 e0 e1 e2 e3 e4 sg3
      go_wp2_with fail
      refine wp_region_still_lit (by kernel_rfl) (by kernel_rfl) ?_
      change wpStill _ _ (World.drew w4) (fun a' => Exit.then _ _ Exit.normal a' (World.drew w4)) _ _
      repeat still_step
      refine wpStill_nil ?_
      go_wp2_with fail
      refine (decimal_i (N : Int) _ kN.out).mono ?_
      rintro e w5 ⟨rfl, hb5⟩
      rw [← HEe.out]
      have L5 := Lib.hid (L4.out.drew.trans (hb5.mono L4.out.size))
      have h2 := (hb5.cell (p := ⟨g, 2, none⟩) sg4).trans f2
      have h3 := (hb5.cell (p := ⟨g, 3, none⟩) sg4).trans f3
      have h4 := (hb5.cell (p := ⟨g, 4, none⟩) sg4).trans f4
      have sg5 : g < w5.heap.size := Nat.lt_of_lt_of_le sg4 hb5.size
      clear hb5 f0 f1 f2 f3 f4 sg4
      go_wp2_with fail
      refine (readDecimal_i E _ (by omega)).mono ?_
      rintro e w6 ⟨rfl, hb6⟩
      rw [DZ.out.1, DZ.out.2]
      have L6 := Lib.hid (L5.out.trans (hb6.mono L5.out.size))
      have k2 := (hb6.cell (p := ⟨g, 2, none⟩) sg5).trans h2
      have k3 := (hb6.cell (p := ⟨g, 3, none⟩) sg5).trans h3
      have k4 := (hb6.cell (p := ⟨g, 4, none⟩) sg5).trans h4
      clear hb6 h2 h3 h4 sg5
      have m1 : IntKind.i64.wrap ((a2 : Int) - 5000) = (a2 : Int) - 5000 := IntWalk.i64_in _ (by omega)
      have m2 : IntKind.i64.wrap (-(a3 : Int)) = -(a3 : Int) := IntWalk.i64_in _ (by omega)
      go_wp2_with fail
      go_quiet ((go_at_call 18; exact (brought_i _ _ _ _).mono fun _ _ ⟨h1, h2⟩ => ⟨h1.trans (by rw [← HBQ.out]), _, h2.symm⟩))
      have p1 := HBR.out.1
      have p2 := HBR.out.2
      have m3 : IntKind.i64.wrap (2 * ((q : Int) + 2)) = 2 * ((q : Int) + 2) := IntWalk.i64_in _ (by omega)
      have m4 : (2 * (((q + 2 : Nat)) : Int)) = 2 * ((q : Int) + 2) := by omega
      go_wp2_with fail
      go_quiet ((go_at_call 18; exact (brought_i _ _ _ _).mono fun _ _ ⟨h1, h2⟩ => ⟨h1.trans (by rw [HBB.out]), _, h2.symm⟩))
      go_wp2
      go_ret
      exact ⟨rfl, below_drewN (below_drewN L6.out _) _⟩
end Go.Proofs.Ytpfhhmlbciojaaa

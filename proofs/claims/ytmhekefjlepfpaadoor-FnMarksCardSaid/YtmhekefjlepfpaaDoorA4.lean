/- The walks: PadText. -/
import Derived.Test.YtmhekefjlepfpaaDoorProg
import Derived.Test.YtmhekefjlepfpaaDoorK
import Derived.Test.YtmhekefjlepfpaaDoorK2
import Derived.Test.YtmhekefjlepfpaaDoorA1
import Derived.RegionTactic
namespace Go.Proofs.YtmhekefjlepfpaaDoor
open Go.RowKit
set_option linter.unusedVariables false
set_option linter.unusedSimpArgs false

theorem pad_eq (s : ByteArray) : ((s ++ (⟨#[128]⟩ : ByteArray)) ++ str (List.replicate (padN s.size) 0)) ++ str (be (8 * s.size) 8) = str (padL s.data.toList) := by
  unfold padL str
  simp [ByteArray.ext_iff]
set_option maxHeartbeats 1000000 in
theorem padText_i (s : ByteArray) (w : World) (hs : s.size ≤ 1000000000) :
    Calls Tryd.prog 58 #[.string s] w fun e w' => e = .returned (.string (str (padL s.data.toList))) ∧ Below w.heap.size w w' := by
  obtain ⟨i0, hi, hz0, hz1, hz2⟩ := info_parts u8_info
  obtain ⟨z, hzp⟩ : ∃ z, z = padN s.size := ⟨_, rfl⟩
  have hzq : (119 - (s.size : Int) % 64) % 64 = (z : Int) := by rw [hzp]; unfold padN; omega
  have hzq2 : (119 - (s.size : Int)) % 64 = (z : Int) := by rw [hzp]; unfold padN; omega
  have hz64 : z < 64 := by rw [hzp]; unfold padN; omega
  have HP := Lib.hid (pad_eq s)
  rw [← hzp] at HP
  have HZ := Lib.hid hzp
  clear hzp
  obtain ⟨ZC, hZC, hmk⟩ : ∃ ZC : Array Value, Hid (ZC.toList = (List.replicate z (0 : UInt8)).map vb ∧ ZC.size = z) ∧ ∀ W, Sem.run Tryd.prog (Instr.makeSlice 44 (.int .i64 (z : Int)) (.int .i64 (z : Int))) W = .ok (.slice (some ⟨W.heap.size, 0, none⟩) z z) (W.alloc (.cells ZC 5)) :=
    ⟨_, Lib.hid ⟨by rw [hz1, zeros_eq], by rw [hz1]; simp [madeCells, Value.cells]⟩, make_eq 44 5 i0 (.int .u8 0) Tryd.underlying44 hi hz0 z (by rw [hz2]; omega) (by unfold maxLen; omega)⟩
  have hown : ∀ W : World, Hid (w.heap.size ≤ W.heap.size → (W.alloc (.cells ZC 5)).ownsRow w.heap.size 5 1 (.slice (some ⟨W.heap.size, 0, none⟩) z z) z ((List.replicate z (0 : UInt8)).map vb)) := fun W => Lib.hid fun h => by
    have := World.ownsRow_lit (base := w.heap.size) (e := 5) (size := 1) W ZC z h (by unfold maxLen; omega) (by rw [hZC.out.2]; simp)
    rw [hZC.out.1] at this
    exact this
  have g1 : IntKind.i64.wrap (8 * (s.size : Int)) = 8 * (s.size : Int) := IntWalk.i64_in _ (by omega)
  have s1 : (str (List.replicate z 0)).size = z := by simp [str_size]
  have s2 : (str (be (8 * s.size) 8)).size = 8 := by simp [str_size, be_len]
  have c1 : ¬ 9223372036854775807 < s.size + 1 := by omega
  have c2 : ¬ 9223372036854775807 < s.size + 1 + z := by omega
  have c3 : ¬ 9223372036854775807 < s.size + 1 + z + 8 := by omega
  have HC := Lib.hid (show (8 * (s.size : Int)) = ((8 * s.size : Nat) : Int) by omega)
  go_enter Tryd.func58, Tryd.ntmps58
  go_wp2
  refine wp_region_any (by kernel_rfl) ?_
  try (change wpAny _ _ _ _ _ _ _ (World.drew _))
  refine wpAny_take (i := 0) (v := ?_) rfl (by kernel_rfl) (by kernel_rfl) (by kernel_rfl) (fun _ _ _ h => h) (Or.inl ⟨by rfl, ?_⟩) ?_
  rotate_left
  · (intro w; go_simp; try (with_reducible rfl))
  refine wpAny_take (i := 1) (v := ?_) rfl (by kernel_rfl) (by kernel_rfl) (by kernel_rfl) (fun _ _ _ h => h) (Or.inl ⟨by rfl, ?_⟩) ?_
  rotate_left
  · (intro w; go_simp; try (with_reducible rfl))
  refine wpAny_take (i := 2) (v := ?_) rfl (by kernel_rfl) (by kernel_rfl) (by kernel_rfl) (fun _ _ _ h => h) (Or.inl ⟨by rfl, ?_⟩) ?_
  rotate_left
  · (intro w; go_simp; try (with_reducible rfl))
  refine wpAny_take (i := 6) (v := ?_) rfl (by kernel_rfl) (by kernel_rfl) (by kernel_rfl) (fun _ _ _ h => h) (Or.inl ⟨by rfl, ?_⟩) ?_
  rotate_left
  · (intro w; go_simp; try (with_reducible rfl))
  refine wpAny_take (i := 7) (v := ?_) rfl (by kernel_rfl) (by kernel_rfl) (by kernel_rfl) (fun _ _ _ h => h) (Or.inl ⟨by rfl, ?_⟩) ?_
  rotate_left
  · (intro w; go_simp; try (with_reducible rfl))
  refine wpAny_take (i := 8) (v := ?_) rfl (by kernel_rfl) (by kernel_rfl) (by kernel_rfl) (fun _ _ _ h => h) (Or.inl ⟨by rfl, ?_⟩) ?_
  rotate_left
  · (intro w; go_simp; try (with_reducible rfl))
  refine wpAny_ready (rs := [3, 9]) (by kernel_rfl) (by simp) ?_
  refine AllReady.cons rfl (fun K hK => ?_) (AllReady.cons rfl (fun K hK => ?_) AllReady.nil)
  · go_simp
    refine hK _ _ ?_; clear hK K
    have hb1 : Below w.heap.size w (w.alloc (.cells ZC 5)).drew := ((Below.refl _ w).alloc (Nat.le_refl _) _).drew
    refine wpAny_ready (rs := [4, 9]) (by kernel_rfl) (by simp) ?_
    refine AllReady.cons rfl (fun K hK => ?_) (AllReady.cons rfl (fun K hK => ?_) AllReady.nil)
    · have hst := own_string (P := Tryd.prog) (w.alloc (.cells ZC 5)).drew 44 9 5 Tryd.underlying44 Tryd.underlying5 Tryd.underlying9 ((hown w).out (Nat.le_refl _)).drew
      go_simp
      refine hK _ _ ?_; clear hK K
      clear hst
      refine wpAny_take (i := 5) (v := ?_) rfl (by kernel_rfl) (by kernel_rfl) (by kernel_rfl) (fun _ _ _ h => h) (Or.inl ⟨by rfl, ?_⟩) ?_
      rotate_left
      · (intro w; go_simp; try (with_reducible rfl))
      refine wpAny_ready (rs := [9]) (by kernel_rfl) (by simp) ?_
      refine AllReady.cons rfl (fun K hK => ?_) AllReady.nil
      go_simp
      go_wp2_with (go_at_call 68; rw [HC.out]; refine (bigEndian_i (8 * s.size) 8 _ (by omega) (by omega) (by omega)).mono ?_; rintro e w2 ⟨rfl, hb2⟩)
      refine wpAny_take (i := 10) (v := ?_) rfl (by kernel_rfl) (by kernel_rfl) (by kernel_rfl) (fun _ _ _ h => h) (Or.inl ⟨by rfl, ?_⟩) ?_
      rotate_left
      · (intro w; go_simp; try (with_reducible rfl))
      refine wpAny_take (i := 11) (v := ?_) rfl (by kernel_rfl) (by kernel_rfl) (by kernel_rfl) (fun _ _ _ h => h) (Or.inl ⟨by rfl, ?_⟩) ?_
      rotate_left
      · (intro w; go_simp; try (with_reducible rfl))
      refine wpAny_done (by kernel_rfl) ?_ _
      go_wp2
      go_ret
      exact ⟨ret_str HP.out, hb1.trans (hb2.mono (by simp))⟩
    · go_simp
      go_wp2_with (go_at_call 68; rw [HC.out]; refine (bigEndian_i (8 * s.size) 8 _ (by omega) (by omega) (by omega)).mono ?_; rintro e w2 ⟨rfl, hb2⟩)
      have hown2 := ((hown w).out (Nat.le_refl _)).drew.kept (w' := w2) (row := none) ⟨hb2.os, hb2.tape, hb2.output, hb2.size, fun k hk _ => hb2.block k hk⟩ (.inr (by simp [Value.ownBlock]))
      refine wpAny_ready (rs := [4]) (by kernel_rfl) (by simp) ?_
      refine AllReady.cons rfl (fun K hK => ?_) AllReady.nil
      have hst := own_string (P := Tryd.prog) w2 44 9 5 Tryd.underlying44 Tryd.underlying5 Tryd.underlying9 hown2
      go_simp
      refine hK _ _ ?_; clear hK K
      clear hst
      refine wpAny_take (i := 5) (v := ?_) rfl (by kernel_rfl) (by kernel_rfl) (by kernel_rfl) (fun _ _ _ h => h) (Or.inl ⟨by rfl, ?_⟩) ?_
      rotate_left
      · (intro w; go_simp; try (with_reducible rfl))
      refine wpAny_take (i := 10) (v := ?_) rfl (by kernel_rfl) (by kernel_rfl) (by kernel_rfl) (fun _ _ _ h => h) (Or.inl ⟨by rfl, ?_⟩) ?_
      rotate_left
      · (intro w; go_simp; try (with_reducible rfl))
      refine wpAny_take (i := 11) (v := ?_) rfl (by kernel_rfl) (by kernel_rfl) (by kernel_rfl) (fun _ _ _ h => h) (Or.inl ⟨by rfl, ?_⟩) ?_
      rotate_left
      · (intro w; go_simp; try (with_reducible rfl))
      refine wpAny_done (by kernel_rfl) ?_ _
      go_wp2
      go_ret
      exact ⟨ret_str HP.out, hb1.trans (hb2.mono (by simp))⟩
  · go_simp
    go_wp2_with (go_at_call 68; rw [HC.out]; refine (bigEndian_i (8 * s.size) 8 _ (by omega) (by omega) (by omega)).mono ?_; rintro e w2 ⟨rfl, hb2⟩)
    have hb3 : Below w.heap.size w w2 := (Below.refl _ w).drew.trans hb2
    refine wpAny_ready (rs := [3]) (by kernel_rfl) (by simp) ?_
    refine AllReady.cons rfl (fun K hK => ?_) AllReady.nil
    go_simp
    refine hK _ _ ?_; clear hK K
    refine wpAny_ready (rs := [4]) (by kernel_rfl) (by simp) ?_
    refine AllReady.cons rfl (fun K hK => ?_) AllReady.nil
    have hst := own_string (P := Tryd.prog) (w2.alloc (.cells ZC 5)) 44 9 5 Tryd.underlying44 Tryd.underlying5 Tryd.underlying9 ((hown w2).out hb3.size)
    go_simp
    refine hK _ _ ?_; clear hK K
    clear hst
    refine wpAny_take (i := 5) (v := ?_) rfl (by kernel_rfl) (by kernel_rfl) (by kernel_rfl) (fun _ _ _ h => h) (Or.inl ⟨by rfl, ?_⟩) ?_
    rotate_left
    · (intro w; go_simp; try (with_reducible rfl))
    refine wpAny_take (i := 10) (v := ?_) rfl (by kernel_rfl) (by kernel_rfl) (by kernel_rfl) (fun _ _ _ h => h) (Or.inl ⟨by rfl, ?_⟩) ?_
    rotate_left
    · (intro w; go_simp; try (with_reducible rfl))
    refine wpAny_take (i := 11) (v := ?_) rfl (by kernel_rfl) (by kernel_rfl) (by kernel_rfl) (fun _ _ _ h => h) (Or.inl ⟨by rfl, ?_⟩) ?_
    rotate_left
    · (intro w; go_simp; try (with_reducible rfl))
    refine wpAny_done (by kernel_rfl) ?_ _
    go_wp2
    go_ret
    exact ⟨ret_str HP.out, hb3.alloc hb3.size _⟩

theorem pads_step {N k : Nat} (h : k < 8) (l : List UInt8) : (l ++ be (N / 256 ^ (8 - k)) k).map vb ++ [Value.int .u8 ((N : Int) / 2 ^ (8 * (7 - k)) % 256)] = (l ++ be (N / 256 ^ (8 - (k + 1))) (k + 1)).map vb := by
  have e : 8 - k = (8 - (k + 1)) + 1 := by omega
  have e2 : (N : Int) / 2 ^ (8 * (7 - k)) = ((N / 256 ^ (8 - (k + 1)) : Nat) : Int) := by
    rw [show (256 : Nat) = 2 ^ 8 from rfl, ← Nat.pow_mul, show 7 - k = 8 - (k + 1) by omega]
    simp
  rw [e2, vb_mod, be, Nat.div_div_eq_div_mul, ← Nat.pow_succ, show (8 - (k + 1)).succ = 8 - k by omega]
  simp
set_option maxHeartbeats 1000000 in
theorem padText_s (s : ByteArray) (w : World) (hs : s.size ≤ 1000000000) :
    Calls Tryd.prog 65 #[.string s] w fun e w' => e = .returned (.string (str (padL s.data.toList))) ∧ Below w.heap.size w w' := by
  obtain ⟨i0, hi, hz0, hz1, hz2⟩ := info_parts u8_info
  obtain ⟨cap, hcap1, hcap2, hcv⟩ : ∃ cap, s.size ≤ cap ∧ cap ≤ maxLen ∧ Sem.run Tryd.prog (convert 9 44 (.string s)) w = .ok (.slice (some ⟨w.heap.size, 0, none⟩) s.size cap) (w.drew.alloc (.cells (bytesRow s cap) 5 ((bytesRow s cap).size, (bytesRow s cap).size + 1))) :=
    ⟨_, grownCap_ge _ _ _ _, grownCap_le_maxLen _ _ _ _ (by unfold maxLen; omega), run_bytes_of_string (P := Tryd.prog) w 9 44 5 s Tryd.underlying9 Tryd.underlying44 Tryd.underlying5⟩
  have ho0 := Lib.hid (obs_bytes w.drew w.heap.size 5 s cap hcap1 hcap2 (Nat.le_refl _))
  have hbl0 := Lib.hid ((Below.refl w.heap.size w).drew.alloc (Nat.le_refl _) (.cells (bytesRow s cap) 5 ((bytesRow s cap).size, (bytesRow s cap).size + 1)))
  have HP := Lib.hid (show padL s.data.toList = (s.data.toList ++ 128 :: List.replicate (padN s.size) 0) ++ be (8 * s.size) 8 by simp [padL])
  have hpl : padN s.size < 64 := by unfold padN; omega
  go_enter Tryd.func65, Tryd.ntmps65
  go_wp2_with (at_builtin; refine wpList_append_obs _ rfl _ _ 44 rfl w.heap.size 5 i0 (.int .u8 0) 1 1 Tryd.underlying44 hi hz0 hz1 hz2 rfl (by decide) _ s.size _ rfl (ho0.out.alloc _) ⟨w.heap.size + 1, 0, none⟩ 1 1 [.int .u8 128] rfl rfl (new_cells_at (w.drew.alloc (.cells (bytesRow s cap) 5 ((bytesRow s cap).size, (bytesRow s cap).size + 1))) #[.int .u8 128] 5 (w.heap.size + 1) (by simp)) (by simp [Value.oneCell']) (by unfold maxLen; omega) (by omega) (by simp; omega) ?_; intro v1 w1 ho1 hb1 hg1)
  go_loopw [3] (fun v wr => ∃ m : Nat, m ≤ padN s.size ∧ Obs wr w.heap.size 1 v (s.size + 1 + m) ((s.data.toList ++ 128 :: List.replicate m 0).map vb) ∧ Below w.heap.size w wr) (fun v _ => s.size + 1 + padN s.size - lenV v)
  case atStart =>
    refine ⟨0, Nat.zero_le _, ?_, hbl0.out.trans ((Below.refl _ _).alloc (by simp) _ |>.trans hb1)⟩
    have e : s.data.toList.map vb ++ [Value.int .u8 128] = (s.data.toList ++ 128 :: List.replicate 0 0).map vb := by simp [vb]
    rw [← e]
    exact ho1
  case round =>
    obtain ⟨m, hm, hob, hnx⟩ := hrel
    obtain ⟨A, c, rfl⟩ := hob.shape
    by_cases hlt : m < padN s.size
    · have ht : (((s.size : Int) + 1 + m) % 64 != 56) = true := by have := padN_lt hlt; simp; omega
      go_wp2_with (at_builtin; refine wpList_append_obs _ rfl _ _ 44 rfl w.heap.size 5 i0 (.int .u8 0) 1 1 Tryd.underlying44 hi hz0 hz1 hz2 rfl (by decide) _ _ _ rfl (hob.alloc _) ⟨wr.heap.size, 0, none⟩ 1 1 [.int .u8 0] rfl rfl (new_cells_at wr #[.int .u8 0] 5 wr.heap.size rfl) (by simp [Value.oneCell']) (by unfold maxLen; omega) (by omega) (by have := hnx.size; simp; omega) ?_; intro v2 w2 ho2 hb2 hg2)
      have H1 : Hid (Obs w2 w.heap.size 1 v2 (s.size + 1 + (m + 1)) ((s.data.toList ++ 128 :: List.replicate (m + 1) 0).map vb)) := Lib.hid (by
        have e : (s.data.toList ++ 128 :: List.replicate m 0).map vb ++ [Value.int .u8 0] = (s.data.toList ++ 128 :: List.replicate (m + 1) 0).map vb := by rw [List.replicate_succ']; simp [vb]
        rw [← e]; exact ho2)
      have H2 := Lib.hid ((hnx.alloc hnx.size (.cells #[.int .u8 0] 5)).trans hb2)
      have H3 := Lib.hid ho2.lenV
      have H4 := Lib.hid hob.lenV
      clear ho2 hb2 hg2 hob
      go_wp2
      go_roundw
      case rel => exact ⟨m + 1, hlt, H1.out, H2.out⟩
      case measure => rw [H3.out, H4.out]; omega
    · obtain rfl : m = padN s.size := by omega
      have ht : (((s.size : Int) + 1 + padN s.size) % 64 != 56) = false := by have := padN_eq s.size; simp; omega
      have HPL := Lib.hid hpl
      clear hpl
      have HOB := Lib.hid hob
      go_wp2
      go_loopw [3, 5] (fun v i wr => ∃ k : Nat, k ≤ 8 ∧ i = .int .i64 (7 - (k : Int)) ∧ Obs wr w.heap.size 1 v (s.size + 1 + padN s.size + k) (((s.data.toList ++ 128 :: List.replicate (padN s.size) 0) ++ be ((8 * s.size) / 256 ^ (8 - k)) k).map vb) ∧ Below w.heap.size w wr) (fun _ i _ => (intOf i + 1).toNat)
      case atStart => exact ⟨0, Nat.zero_le _, rfl, by simpa [be] using HOB.out, hnx⟩
      case round =>
        clear hob hnx HOB
        obtain ⟨k, hk, rfl, hob, hnx⟩ := hrel
        have hpl := HPL.out
        by_cases hlt : k < 8
        · have HX : Hid (((s.data.toList ++ 128 :: List.replicate (padN s.size) 0) ++ be ((8 * s.size) / 256 ^ (8 - k)) k).map vb ++ [Value.int .u8 (8 * (s.size : Int) / 2 ^ (8 * (7 - k)) % 256)] = ((s.data.toList ++ 128 :: List.replicate (padN s.size) 0) ++ be ((8 * s.size) / 256 ^ (8 - (k + 1))) (k + 1)).map vb) := Lib.hid (by
            rw [show (8 * (s.size : Int)) = ((8 * s.size : Nat) : Int) by omega]
            exact pads_step hlt _)
          go_wp2_with (at_builtin; refine wpList_append_obs _ rfl _ _ 44 rfl w.heap.size 5 i0 (.int .u8 0) 1 1 Tryd.underlying44 hi hz0 hz1 hz2 rfl (by decide) _ _ _ rfl (hob.alloc _) ⟨wr.heap.size, 0, none⟩ 1 1 _ rfl rfl (new_cells_at wr #[_] 5 wr.heap.size rfl) (by simp [Value.oneCell']) (by unfold maxLen; omega) (by omega) (by have := hnx.size; simp; omega) ?_; intro v2 w2 ho2 hb2 hg2)
          have H1 : Hid (Obs w2 w.heap.size 1 v2 (s.size + 1 + padN s.size + (k + 1)) (((s.data.toList ++ 128 :: List.replicate (padN s.size) 0) ++ be ((8 * s.size) / 256 ^ (8 - (k + 1))) (k + 1)).map vb)) := Lib.hid (by rw [← HX.out]; exact ho2)
          have H2 := Lib.hid ((hnx.alloc hnx.size _).trans hb2)
          clear ho2 hb2 hg2 hob
          go_wp2
          go_roundw
          case rel => exact ⟨k + 1, hlt, by go_num, H1.out, H2.out⟩
          case measure => simp [intOf]; omega
        · obtain rfl : k = 8 := by omega
          rw [show 8 - 8 = 0 from rfl, Nat.pow_zero, Nat.div_one, ← HP.out] at hob
          have hst := obs_string (P := Tryd.prog) wr 44 9 5 Tryd.underlying44 Tryd.underlying5 Tryd.underlying9 hob
          go_wp2
          go_ret
          exact ⟨rfl, hnx⟩
end Go.Proofs.YtmhekefjlepfpaaDoor

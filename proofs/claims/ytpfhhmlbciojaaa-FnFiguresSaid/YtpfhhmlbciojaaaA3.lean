/- The walks: Hex, Unhex and their digits. -/
import Derived.Test.YtpfhhmlbciojaaaProg
import Derived.Test.YtpfhhmlbciojaaaK
import Derived.Test.YtpfhhmlbciojaaaA1
import Derived.RegionTactic
import Derived.Deep.RegionLaw
namespace Go.Proofs.Ytpfhhmlbciojaaa
open Go.RowKit
set_option linter.unusedVariables false
set_option linter.unusedSimpArgs false

theorem hex_i (s : ByteArray) (w : World) (hs : s.size ≤ 20000) :
    Calls Try.prog 15 #[.string s] w fun e w' => e = .returned (.tuple #[.string (str (hexL s.data.toList)), .bool true]) ∧ Below w.heap.size w w' := by
  obtain ⟨i0, hi, hz0, hz1, hz2⟩ := info_parts u8_info
  go_enter Try.func15, Try.ntmps15
  go_wp2
  go_loopw [4, 5] (fun v i wr => ∃ k : Nat, k ≤ s.size ∧ i = .int .i64 k ∧ wr.ownsRow w.heap.size 5 1 v (2 * k) ((hexL (s.data.toList.take k)).map vb) ∧ Below w.heap.size w wr) (fun _ i _ => s.size - (intOf i).toNat)
  case atStart => exact ⟨0, Nat.zero_le _, rfl, World.ownsRow_nil _ _ _ _, Below.refl _ _⟩
  case round =>
    obtain ⟨k, hk, rfl, hown, hnx⟩ := hrel
    by_cases hlt : k < s.size
    · have hx := s[k].toNat_lt
      have h1 : (0 : Int) ≤ (s[k].toNat : Int) / 16 := by omega
      have h2 : (s[k].toNat : Int) / 16 < 16 := by omega
      have h3 : bits BinOp.and IntKind.u8 (s[k].toNat : Int) 15 = ((s[k].toNat % 16 : Nat) : Int) := (u8_and_nat _ 15 hx (by omega)).trans (by rw [nat_mask4])
      have h4 : (0 : Int) ≤ (s[k].toNat : Int) % 16 := by omega
      have h5 : (s[k].toNat : Int) % 16 < 16 := by omega
      have hd1 : ∀ hh : ((s[k].toNat : Int) / 16).toNat < (⟨#[48, 49, 50, 51, 52, 53, 54, 55, 56, 57, 97, 98, 99, 100, 101, 102]⟩ : ByteArray).size, ((⟨#[48, 49, 50, 51, 52, 53, 54, 55, 56, 57, 97, 98, 99, 100, 101, 102]⟩ : ByteArray)[((s[k].toNat : Int) / 16).toNat]'hh).toNat = (hexC (s[k].toNat / 16)).toNat := fun hh => by rw [hex_digit _ (s[k].toNat / 16) (by omega) (by omega)]
      have hd2 : ∀ hh : ((s[k].toNat : Int) % 16).toNat < (⟨#[48, 49, 50, 51, 52, 53, 54, 55, 56, 57, 97, 98, 99, 100, 101, 102]⟩ : ByteArray).size, ((⟨#[48, 49, 50, 51, 52, 53, 54, 55, 56, 57, 97, 98, 99, 100, 101, 102]⟩ : ByteArray)[((s[k].toNat : Int) % 16).toNat]'hh).toNat = (hexC (s[k].toNat % 16)).toNat := fun hh => by rw [hex_digit _ (s[k].toNat % 16) (by omega) (by omega)]
      go_wp2
      refine wp_region_any (by kernel_rfl) ?_
      try (change wpAny _ _ _ _ _ _ _ (World.drew _))
      refine wpAny_take (i := 0) (v := ?_) rfl (by kernel_rfl) (by kernel_rfl) (by kernel_rfl) (fun _ _ _ h => h) (Or.inl ⟨by rfl, ?_⟩) ?_
      rotate_left
      · (intro w; go_simp; try (with_reducible rfl))
      refine wpAny_take (i := 1) (v := ?_) rfl (by kernel_rfl) (by kernel_rfl) (by kernel_rfl) (fun _ _ _ h => h) (Or.inl ⟨by rfl, ?_⟩) ?_
      rotate_left
      · (intro w; go_simp; try (with_reducible rfl))
      refine wpAny_take (i := 2) (v := ?_) rfl (by kernel_rfl) (by kernel_rfl) (by kernel_rfl) (fun _ _ _ h => h) (Or.inl ⟨by rfl, ?_⟩) ?_
      rotate_left
      · (intro w; go_simp; try (with_reducible rfl))
      refine wpAny_take (i := 3) (v := ?_) rfl (by kernel_rfl) (by kernel_rfl) (by kernel_rfl) (fun _ _ _ h => h) (Or.inl ⟨by rfl, ?_⟩) ?_
      rotate_left
      · (intro w; go_simp; try (with_reducible rfl))
      refine wpAny_take (i := 4) (v := ?_) rfl (by kernel_rfl) (by kernel_rfl) (by kernel_rfl) (fun _ _ _ h => h) (Or.inl ⟨by rfl, ?_⟩) ?_
      rotate_left
      · (intro w; go_simp; try (with_reducible rfl))
      refine wpAny_take (i := 5) (v := ?_) rfl (by kernel_rfl) (by kernel_rfl) (by kernel_rfl) (fun _ _ _ h => h) (Or.inl ⟨by rfl, ?_⟩) ?_
      rotate_left
      · (intro w; go_simp; try (with_reducible rfl))
      refine wpAny_take (i := 6) (v := ?_) rfl (by kernel_rfl) (by kernel_rfl) (by kernel_rfl) (fun _ _ _ h => h) (Or.inl ⟨by rfl, ?_⟩) ?_
      rotate_left
      · (intro w; go_simp; try (with_reducible rfl))
      refine wpAny_take (i := 7) (v := ?_) rfl (by kernel_rfl) (by kernel_rfl) (by kernel_rfl) (fun _ _ _ h => h) (Or.inl ⟨by rfl, ?_⟩) ?_
      rotate_left
      · (intro w; go_simp; try (with_reducible rfl))
      refine wpAny_take (i := 8) (v := ?_) rfl (by kernel_rfl) (by kernel_rfl) (by kernel_rfl) (fun _ _ _ h => h) (Or.inl ⟨by rfl, ?_⟩) ?_
      rotate_left
      · (intro w; go_simp; try (with_reducible rfl))
      refine wpAny_take (i := 9) (v := ?_) rfl (by kernel_rfl) (by kernel_rfl) (by kernel_rfl) (fun _ _ _ h => h) (Or.inl ⟨by rfl, ?_⟩) ?_
      rotate_left
      · (intro w; go_simp; try (with_reducible rfl))
      refine wpAny_take (i := 10) (v := ?_) rfl (by kernel_rfl) (by kernel_rfl) (by kernel_rfl) (fun _ _ _ h => h) (Or.inl ⟨by rfl, ?_⟩) ?_
      rotate_left
      · (intro w; go_simp; try (with_reducible rfl))
      refine wpAny_ready (rs := [11]) (by kernel_rfl) (by simp) ?_
      refine AllReady.cons rfl (fun K hK => ?_) AllReady.nil
      go_simp
      refine hK _ _ ?_; clear hK K
      refine wpAny_ready (rs := [12]) (by kernel_rfl) (by simp) ?_
      refine AllReady.cons rfl (fun K hK => ?_) AllReady.nil
      (refine step_append_own rfl _ _ 22 rfl w.heap.size 5 i0 (.int .u8 0) 1 1 Try.underlying22 hi hz0 hz1 hz2 rfl (by decide) _ _ _ rfl (hown.drew.alloc _) ⟨wr.heap.size, 0, none⟩ 2 2 _ rfl rfl (new_cells _ _ _) (by simp [Value.oneCell']) (by unfold maxLen; omega) (by omega) (by have := hnx.size; simp; omega) ?_; intro v1 w1 hown1 hg1)
      refine hK _ _ ?_; clear hK K
      refine wpAny_take (i := 13) (v := ?_) rfl (by kernel_rfl) (by kernel_rfl) (by kernel_rfl) (fun _ _ _ h => h) (Or.inl ⟨by rfl, ?_⟩) ?_
      rotate_left
      · (intro w; go_simp; try (with_reducible rfl))
      refine wpAny_done (by kernel_rfl) ?_ _
      have H1 : Hid (w1.ownsRow w.heap.size 5 1 v1 (2 * (k + 1)) ((hexL (s.data.toList.take (k + 1))).map vb)) := Lib.hid (by
        rw [take_succ_bytes s k hlt, hexL_snoc, List.map_append]
        exact hown1)
      have H2 := Lib.hid ((hnx.drew.alloc (by have := hnx.size; simpa using this) _).grown hg1 (by have := hnx.size; simp; omega) (fun g hg => (hown.lt g hg).1))
      clear hown1 hg1 hown h1 h2 h3 h4 h5 hd1 hd2
      go_wp2
      go_roundw
      case rel => exact ⟨k + 1, hlt, by go_num, H1.out, H2.out⟩
      case measure => simp [intOf]; omega
    · obtain rfl : k = s.size := by omega
      rw [List.take_of_length_le (by simp)] at hown
      have hst := own_string (P := Try.prog) wr 22 9 5 Try.underlying22 Try.underlying5 Try.underlying9 hown
      go_wp2
      go_ret2
      exact ⟨rfl, hnx⟩
theorem hex_i_no (s : ByteArray) (w : World) (hs : 20000 < s.size) :
    Calls Try.prog 15 #[.string s] w fun e w' => e = .returned (.tuple #[.string ⟨#[]⟩, .bool false]) ∧ w = w' := by
  go_enter Try.func15, Try.ntmps15
  go_wp2
  go_ret2
  exact ⟨rfl, rfl⟩



theorem hexv_i (c : UInt8) (w : World) : Calls Try.prog 39 #[.int .u8 (c.toNat : Int)] w fun e w' => e = .returned (.int .i64 (hexV c)) ∧ w = w' := by
  have hc := c.toNat_lt
  go_enter Try.func39, Try.ntmps39
  go_wp2
  all_goals
    go_ret
    exact ⟨ret_int (by unfold hexV; simp at *; split <;> (try split) <;> omega), rfl⟩
set_option maxHeartbeats 1600000 in
theorem unhex_i_ok (s : ByteArray) (w : World) (h2 : s.size % 2 = 0) (h4 : s.size ≤ 40000) :
    Calls Try.prog 16 #[.string s] w fun e w' => e = .returned (.tuple #[.string (unhexT s), .bool (unhexB s)]) ∧ Below w.heap.size w w' := by
  obtain ⟨i0, hi, hz0, hz1, hz2⟩ := info_parts u8_info
  have hm : (s.size : Int) % 2 = 0 := by omega
  have HO : Hid (unhexO s = unhexL s.data.toList) := Lib.hid (by unfold unhexO; rw [if_pos ⟨h2, h4⟩])
  go_enter Try.func16, Try.ntmps16
  go_wp2
  go_loopw [4, 5] (fun v i wr => ∃ (j : Nat) (L : List UInt8), 2 * j ≤ s.size ∧ i = .int .i64 (2 * (j : Int)) ∧ L.length = j ∧ Hid (unhexL s.data.toList = (unhexL (s.data.toList.drop (2 * j))).map (L ++ ·)) ∧ wr.ownsRow w.heap.size 5 1 v j (L.map vb) ∧ Below w.heap.size w wr) (fun _ i _ => s.size - (intOf i).toNat)
  case atStart => exact ⟨0, [], Nat.zero_le _, rfl, rfl, Lib.hid (by simp), World.ownsRow_nil _ _ _ _, Below.refl _ _⟩
  case round =>
    obtain ⟨j, L, hk, rfl, hL, HE, hown, hnx⟩ := hrel
    by_cases hlt : 2 * j < s.size
    · have hlt2 : 2 * j + 1 < s.size := by omega
      have hd := drop_two s (2 * j) hlt2
      have HD : Hid (unhexL (s.data.toList.drop (2 * j)) = if hexV s[2 * j] < 0 ∨ hexV s[2 * j + 1] < 0 then none else (unhexL (s.data.toList.drop (2 * j + 2))).map (UInt8.ofNat (16 * hexV s[2 * j] + hexV s[2 * j + 1]).toNat :: ·)) := Lib.hid (by rw [hd]; rfl)
      clear hd
      have b1 := hexV_le s[2 * j]
      have b2 := hexV_le s[2 * j + 1]
      have HL := Lib.hid hL
      clear hL
      have g1 : IntKind.i64.wrap (2 * (j : Int) + 1) = 2 * (j : Int) + 1 := IntWalk.i64_in _ (by omega)
      have g2 : (2 * (j : Int) + 1).toNat = 2 * j + 1 := by omega
      have g3 : (0 : Int) ≤ 2 * (j : Int) + 1 := by omega
      have g4 : 2 * (j : Int) + 1 < s.size := by omega
      have g5 : (2 * (j : Int)).toNat = 2 * j := by omega
      have g6 : (0 : Int) ≤ 2 * (j : Int) := by omega
      have g7 : 2 * (j : Int) < s.size := by omega
      by_cases c1 : hexV s[2 * j] < 0 ∨ hexV s[2 * j + 1] < 0
      · have HB : Hid (unhexO s = none) := Lib.hid (by rw [HO.out, HE.out, HD.out, if_pos c1]; rfl)
        rcases c1 with c1 | c1
        · go_wp2
          refine wp_region_any (by kernel_rfl) ?_
          try (change wpAny _ _ _ _ _ _ _ (World.drew _))
          refine wpAny_take (i := 0) (v := ?_) rfl (by kernel_rfl) (by kernel_rfl) (by kernel_rfl) (fun _ _ _ h => h) (Or.inl ⟨by rfl, ?_⟩) ?_
          rotate_left
          · (intro w; go_simp; try (with_reducible rfl))
          refine wpAny_take (i := 1) (v := ?_) rfl (by kernel_rfl) (by kernel_rfl) (by kernel_rfl) (fun _ _ _ h => h) (Or.inl ⟨by rfl, ?_⟩) ?_
          rotate_left
          · (intro w; go_simp; try (with_reducible rfl))
          refine wpAny_take (i := 2) (v := ?_) rfl (by kernel_rfl) (by kernel_rfl) (by kernel_rfl) (fun _ _ _ h => h) (Or.inl ⟨by rfl, ?_⟩) ?_
          rotate_left
          · (intro w; go_simp; try (with_reducible rfl))
          refine wpAny_take (i := 4) (v := ?_) rfl (by kernel_rfl) (by kernel_rfl) (by kernel_rfl) (fun _ _ _ h => h) (Or.inl ⟨by rfl, ?_⟩) ?_
          rotate_left
          · (intro w; go_simp; try (with_reducible rfl))
          refine wpAny_take (i := 5) (v := ?_) rfl (by kernel_rfl) (by kernel_rfl) (by kernel_rfl) (fun _ _ _ h => h) (Or.inl ⟨by rfl, ?_⟩) ?_
          rotate_left
          · (intro w; go_simp; try (with_reducible rfl))
          refine wpAny_take (i := 6) (v := ?_) rfl (by kernel_rfl) (by kernel_rfl) (by kernel_rfl) (fun _ _ _ h => h) (Or.inl ⟨by rfl, ?_⟩) ?_
          rotate_left
          · (intro w; go_simp; try (with_reducible rfl))
          refine wpAny_take (i := 7) (v := ?_) rfl (by kernel_rfl) (by kernel_rfl) (by kernel_rfl) (fun _ _ _ h => h) (Or.inl ⟨by rfl, ?_⟩) ?_
          rotate_left
          · (intro w; go_simp; try (with_reducible rfl))
          refine wpAny_ready (rs := [3]) (by kernel_rfl) (by simp) ?_
          refine AllReady.cons rfl (fun K hK => ?_) AllReady.nil
          go_simp
          go_wp2_with (first | (go_at_call 39; refine (hexv_i s[2 * j] _).mono ?_; rintro e w' ⟨rfl, rfl⟩))
          refine wpAny_ready (rs := [8]) (by kernel_rfl) (by simp) ?_
          refine AllReady.cons rfl (fun K hK => ?_) AllReady.nil
          go_simp
          go_wp2_with (first | (go_at_call 39; refine (hexv_i s[2 * j + 1] _).mono ?_; rintro e w' ⟨rfl, rfl⟩))
          refine wpAny_take (i := 9) (v := ?_) rfl (by kernel_rfl) (by kernel_rfl) (by kernel_rfl) (fun _ _ _ h => h) (Or.inl ⟨by rfl, ?_⟩) ?_
          rotate_left
          · (intro w; go_simp; try (with_reducible rfl))
          refine wpAny_take (i := 10) (v := ?_) rfl (by kernel_rfl) (by kernel_rfl) (by kernel_rfl) (fun _ _ _ h => h) (Or.inl ⟨by rfl, ?_⟩) ?_
          rotate_left
          · (intro w; go_simp; try (with_reducible rfl))
          refine wpAny_done (by kernel_rfl) ?_ _
          go_wp2
          go_ret2
          exact ⟨by unfold unhexT unhexB; rw [HB.out]; rfl, hnx.drew⟩
        · by_cases c0 : hexV s[2 * j] < 0
          all_goals
            go_wp2
            refine wp_region_any (by kernel_rfl) ?_
            try (change wpAny _ _ _ _ _ _ _ (World.drew _))
            refine wpAny_take (i := 0) (v := ?_) rfl (by kernel_rfl) (by kernel_rfl) (by kernel_rfl) (fun _ _ _ h => h) (Or.inl ⟨by rfl, ?_⟩) ?_
            rotate_left
            · (intro w; go_simp; try (with_reducible rfl))
            refine wpAny_take (i := 1) (v := ?_) rfl (by kernel_rfl) (by kernel_rfl) (by kernel_rfl) (fun _ _ _ h => h) (Or.inl ⟨by rfl, ?_⟩) ?_
            rotate_left
            · (intro w; go_simp; try (with_reducible rfl))
            refine wpAny_take (i := 2) (v := ?_) rfl (by kernel_rfl) (by kernel_rfl) (by kernel_rfl) (fun _ _ _ h => h) (Or.inl ⟨by rfl, ?_⟩) ?_
            rotate_left
            · (intro w; go_simp; try (with_reducible rfl))
            refine wpAny_take (i := 4) (v := ?_) rfl (by kernel_rfl) (by kernel_rfl) (by kernel_rfl) (fun _ _ _ h => h) (Or.inl ⟨by rfl, ?_⟩) ?_
            rotate_left
            · (intro w; go_simp; try (with_reducible rfl))
            refine wpAny_take (i := 5) (v := ?_) rfl (by kernel_rfl) (by kernel_rfl) (by kernel_rfl) (fun _ _ _ h => h) (Or.inl ⟨by rfl, ?_⟩) ?_
            rotate_left
            · (intro w; go_simp; try (with_reducible rfl))
            refine wpAny_take (i := 6) (v := ?_) rfl (by kernel_rfl) (by kernel_rfl) (by kernel_rfl) (fun _ _ _ h => h) (Or.inl ⟨by rfl, ?_⟩) ?_
            rotate_left
            · (intro w; go_simp; try (with_reducible rfl))
            refine wpAny_take (i := 7) (v := ?_) rfl (by kernel_rfl) (by kernel_rfl) (by kernel_rfl) (fun _ _ _ h => h) (Or.inl ⟨by rfl, ?_⟩) ?_
            rotate_left
            · (intro w; go_simp; try (with_reducible rfl))
            refine wpAny_ready (rs := [3]) (by kernel_rfl) (by simp) ?_
            refine AllReady.cons rfl (fun K hK => ?_) AllReady.nil
            go_simp
            go_wp2_with (first | (go_at_call 39; refine (hexv_i s[2 * j] _).mono ?_; rintro e w' ⟨rfl, rfl⟩))
            refine wpAny_ready (rs := [8]) (by kernel_rfl) (by simp) ?_
            refine AllReady.cons rfl (fun K hK => ?_) AllReady.nil
            go_simp
            go_wp2_with (first | (go_at_call 39; refine (hexv_i s[2 * j + 1] _).mono ?_; rintro e w' ⟨rfl, rfl⟩))
            refine wpAny_take (i := 9) (v := ?_) rfl (by kernel_rfl) (by kernel_rfl) (by kernel_rfl) (fun _ _ _ h => h) (Or.inl ⟨by rfl, ?_⟩) ?_
            rotate_left
            · (intro w; go_simp; try (with_reducible rfl))
            refine wpAny_take (i := 10) (v := ?_) rfl (by kernel_rfl) (by kernel_rfl) (by kernel_rfl) (fun _ _ _ h => h) (Or.inl ⟨by rfl, ?_⟩) ?_
            rotate_left
            · (intro w; go_simp; try (with_reducible rfl))
            refine wpAny_done (by kernel_rfl) ?_ _
            go_wp2
            go_ret2
            exact ⟨by unfold unhexT unhexB; rw [HB.out]; rfl, hnx.drew⟩
      · have c2 : 0 ≤ hexV s[2 * j] := by omega
        have c3 : 0 ≤ hexV s[2 * j + 1] := by omega
        have HD2 := HD.out
        rw [if_neg c1] at HD2
        have HE2 : Hid (unhexL s.data.toList = (unhexL (s.data.toList.drop (2 * (j + 1)))).map ((L ++ [UInt8.ofNat (16 * hexV s[2 * j] + hexV s[2 * j + 1]).toNat]) ++ ·)) := Lib.hid (by
          rw [HE.out, HD2, Option.map_map, show 2 * (j + 1) = 2 * j + 2 by omega]
          congr 1
          funext x
          simp)
        clear HD2 HD c1
        have HV := Lib.hid (vb_small (16 * hexV s[2 * j] + hexV s[2 * j + 1]) (by omega) (by omega))
        go_wp2
        refine wp_region_any (by kernel_rfl) ?_
        try (change wpAny _ _ _ _ _ _ _ (World.drew _))
        refine wpAny_take (i := 0) (v := ?_) rfl (by kernel_rfl) (by kernel_rfl) (by kernel_rfl) (fun _ _ _ h => h) (Or.inl ⟨by rfl, ?_⟩) ?_
        rotate_left
        · (intro w; go_simp; try (with_reducible rfl))
        refine wpAny_take (i := 1) (v := ?_) rfl (by kernel_rfl) (by kernel_rfl) (by kernel_rfl) (fun _ _ _ h => h) (Or.inl ⟨by rfl, ?_⟩) ?_
        rotate_left
        · (intro w; go_simp; try (with_reducible rfl))
        refine wpAny_take (i := 2) (v := ?_) rfl (by kernel_rfl) (by kernel_rfl) (by kernel_rfl) (fun _ _ _ h => h) (Or.inl ⟨by rfl, ?_⟩) ?_
        rotate_left
        · (intro w; go_simp; try (with_reducible rfl))
        refine wpAny_take (i := 4) (v := ?_) rfl (by kernel_rfl) (by kernel_rfl) (by kernel_rfl) (fun _ _ _ h => h) (Or.inl ⟨by rfl, ?_⟩) ?_
        rotate_left
        · (intro w; go_simp; try (with_reducible rfl))
        refine wpAny_take (i := 5) (v := ?_) rfl (by kernel_rfl) (by kernel_rfl) (by kernel_rfl) (fun _ _ _ h => h) (Or.inl ⟨by rfl, ?_⟩) ?_
        rotate_left
        · (intro w; go_simp; try (with_reducible rfl))
        refine wpAny_take (i := 6) (v := ?_) rfl (by kernel_rfl) (by kernel_rfl) (by kernel_rfl) (fun _ _ _ h => h) (Or.inl ⟨by rfl, ?_⟩) ?_
        rotate_left
        · (intro w; go_simp; try (with_reducible rfl))
        refine wpAny_take (i := 7) (v := ?_) rfl (by kernel_rfl) (by kernel_rfl) (by kernel_rfl) (fun _ _ _ h => h) (Or.inl ⟨by rfl, ?_⟩) ?_
        rotate_left
        · (intro w; go_simp; try (with_reducible rfl))
        refine wpAny_ready (rs := [3]) (by kernel_rfl) (by simp) ?_
        refine AllReady.cons rfl (fun K hK => ?_) AllReady.nil
        go_simp
        go_wp2_with (first | (go_at_call 39; refine (hexv_i s[2 * j] _).mono ?_; rintro e w' ⟨rfl, rfl⟩))
        refine wpAny_ready (rs := [8]) (by kernel_rfl) (by simp) ?_
        refine AllReady.cons rfl (fun K hK => ?_) AllReady.nil
        go_simp
        go_wp2_with (first | (go_at_call 39; refine (hexv_i s[2 * j + 1] _).mono ?_; rintro e w' ⟨rfl, rfl⟩))
        refine wpAny_take (i := 9) (v := ?_) rfl (by kernel_rfl) (by kernel_rfl) (by kernel_rfl) (fun _ _ _ h => h) (Or.inl ⟨by rfl, ?_⟩) ?_
        rotate_left
        · (intro w; go_simp; try (with_reducible rfl))
        refine wpAny_take (i := 10) (v := ?_) rfl (by kernel_rfl) (by kernel_rfl) (by kernel_rfl) (fun _ _ _ h => h) (Or.inl ⟨by rfl, ?_⟩) ?_
        rotate_left
        · (intro w; go_simp; try (with_reducible rfl))
        refine wpAny_done (by kernel_rfl) ?_ _
        go_wp2_with (at_builtin; refine wpList_append_own _ rfl _ _ 22 rfl w.heap.size 5 i0 (.int .u8 0) 1 1 Try.underlying22 hi hz0 hz1 hz2 rfl (by decide) _ _ _ rfl (hown.drew.alloc _) ⟨wr.heap.size, 0, none⟩ 1 1 _ rfl rfl (new_cells _ _ _) (by simp [Value.oneCell']) (by unfold maxLen; omega) (by omega) (by have := hnx.size; simp; omega) ?_; intro v1 w1 hown1 hg1 _)
        have H1 : Hid (w1.ownsRow w.heap.size 5 1 v1 (j + 1) ((L ++ [UInt8.ofNat (16 * hexV s[2 * j] + hexV s[2 * j + 1]).toNat]).map vb)) := Lib.hid (by
          rw [List.map_append, List.map_cons, List.map_nil, ← HV.out]
          exact hown1)
        have H2 := Lib.hid ((hnx.drew.alloc (by have := hnx.size; simpa using this) _).grown hg1 (by have := hnx.size; simp; omega) (fun g hg => (hown.lt g hg).1))
        clear hown1 hg1 hown
        go_wp2
        go_roundw
        case rel =>
          first
            | exact ⟨j + 1, _, by omega, by go_num, by rw [List.length_append, HL.out]; rfl, HE2, H1.out, H2.out⟩
            | exact ⟨_, _, _, _, ⟨j + 1, by omega, rfl, _, by rw [List.length_append, HL.out]; rfl, HE2, H1.out, H2.out⟩, rfl, rfl, rfl, by go_num⟩
        case measure => simp [intOf]; omega
    · have hj : 2 * j = s.size := by omega
      have HB : Hid (unhexO s = some L) := Lib.hid (by
        rw [HO.out, HE.out, List.drop_of_length_le (by simp; omega)]
        simp [unhexL])
      clear hj
      have hst := own_string (P := Try.prog) wr 22 9 5 Try.underlying22 Try.underlying5 Try.underlying9 hown
      go_wp2
      go_ret2
      exact ⟨by unfold unhexT unhexB; rw [HB.out]; rfl, hnx⟩
theorem unhex_i (s : ByteArray) (w : World) (hs : s.size ≤ 9223372036854775807) :
    Calls Try.prog 16 #[.string s] w fun e w' => e = .returned (.tuple #[.string (unhexT s), .bool (unhexB s)]) ∧ Below w.heap.size w w' := by
  by_cases h : s.size % 2 = 0 ∧ s.size ≤ 40000
  · exact unhex_i_ok s w h.1 h.2
  · have HB : Hid (unhexO s = none) := Lib.hid (by unfold unhexO; rw [if_neg h])
    by_cases h2 : s.size % 2 = 0
    · have h4 : 40000 < s.size := by omega
      have h5 : 20000 < s.size / 2 := by omega
      have hm : (s.size : Int) % 2 = 0 := by omega
      clear h h2
      go_enter Try.func16, Try.ntmps16
      go_wp2
      go_ret2
      exact ⟨by unfold unhexT unhexB; rw [HB.out]; rfl, Below.refl _ _⟩
    · have hm : (s.size : Int) % 2 = 1 := by omega
      clear h h2
      by_cases h4 : s.size ≤ 40000
      all_goals
        go_enter Try.func16, Try.ntmps16
        go_wp2
        go_ret2
        exact ⟨by unfold unhexT unhexB; rw [HB.out]; rfl, Below.refl _ _⟩

end Go.Proofs.Ytpfhhmlbciojaaa

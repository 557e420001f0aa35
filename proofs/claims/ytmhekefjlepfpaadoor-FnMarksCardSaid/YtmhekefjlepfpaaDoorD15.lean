/- The walks of the draws of a code's key and text. -/
import Derived.Test.YtmhekefjlepfpaaDoorD14
import Derived.Deep.Cut
namespace Go.Proofs.YtmhekefjlepfpaaDoor
open Go.RowKit
set_option linter.unusedVariables false
set_option linter.unusedSimpArgs false
theorem drewN_below (w : World) (k : Nat) : Below w.heap.size w (w.drewN k) := below_drewN (Below.refl _ _) k
set_option maxRecDepth 100000 in
set_option maxHeartbeats 1600000 in
theorem spoilt_s (S : ByteArray) (g : Nat) (w : World) (hc : Cur w g) (h0 : 0 < S.size) (hs : S.size ≤ 1000) : Calls Tryd.prog 86 #[.pointer (some ⟨g, 0, none⟩), .string S] w (GivesText (fun _ => True) g w) := by
  have hgl := hc.lt
  have HC := Lib.hid hc
  clear hc
  obtain ⟨n, hn⟩ : ∃ n, n = S.size := ⟨_, rfl⟩
  have HN := Lib.hid hn
  have q0 : ((S.size : Int) == 0) = false := by rw [beq_eq_false_iff_ne]; omega
  go_enter Tryd.func86, Tryd.ntmps86
  go_wp2_with fail
  refine (below_s g S.size _ HC.out (by omega) (by omega)).mono ?_
  rintro e w1 ⟨k, hk, rfl, hc1, hg1⟩
  have C1 := Lib.hid hc1
  have G1 := Lib.hid hg1
  clear hc1 hg1
  go_wp2_with fail
  refine (once_s g 4 _ C1.out (by omega) (by omega)).mono ?_
  rintro e w2 ⟨r, rfl, hc2, hg2⟩
  have C2 := Lib.hid hc2
  have G2 := Lib.hid (G1.out.trans hg2)
  clear hc2 hg2 C1 G1 hn
  cases r with
  | true =>
    have hsum : ¬ (9223372036854775807 < (S.extract 0 k).size + (S.extract (k + 1) S.size).size) := by rw [ByteArray.size_extract, ByteArray.size_extract]; omega
    have hkk : (k : Int) < (S.size : Int) := by omega
    go_wp2_with fail
    go_quiet (fail)
    go_wp2
    go_ret
    exact ⟨_, trivial, rfl, C2.out.below (drewN_below _ _), G2.out.drewN _⟩
  | false =>
    obtain ⟨cap, hcap1, hcap2, hcv⟩ : ∃ cap, S.size ≤ cap ∧ cap ≤ maxLen ∧ Sem.run Tryd.prog (convert 9 44 (.string S)) w2 = .ok (.slice (some ⟨w2.heap.size, 0, none⟩) S.size cap) (w2.drew.alloc (.cells (bytesRow S cap) 5 ((bytesRow S cap).size, (bytesRow S cap).size + 1))) :=
      ⟨_, grownCap_ge _ _ _ _, grownCap_le_maxLen _ _ _ _ (by unfold maxLen; omega), run_bytes_of_string (P := Tryd.prog) w2 9 44 5 S Tryd.underlying9 Tryd.underlying44 Tryd.underlying5⟩
    obtain ⟨W, hW⟩ : ∃ W, W = w2.drew.alloc (.cells (bytesRow S cap) 5 ((bytesRow S cap).size, (bytesRow S cap).size + 1)) := ⟨_, rfl⟩
    obtain ⟨b, hb⟩ : ∃ b, b = w2.heap.size := ⟨_, rfl⟩
    have OB : Hid (Obs W b 1 (.slice (some ⟨b, 0, none⟩) S.size cap) S.size (S.data.toList.map vb)) := Lib.hid (by rw [hW, hb]; exact obs_bytes w2.drew w2.heap.size 5 S cap hcap1 hcap2 (Nat.le_refl _))
    have EB : Hid (Below w2.heap.size w2 W) := Lib.hid (by rw [hW]; exact (Below.refl _ w2).drew.alloc (Nat.le_refl _) _)
    rw [← hW, ← hb] at hcv
    have HGB : Hid (g < b) := Lib.hid (by rw [hb]; exact C2.out.lt)
    have C3 := Lib.hid (C2.out.below EB.out)
    have G3 := Lib.hid (G2.out.trans (.of_below EB.out))
    have HBW : Hid (b = w2.heap.size) := Lib.hid hb
    have GW := Lib.hid G2.out
    clear hW hb EB C2 G2
    go_upto_region 7 with (fail)
    have hkl : k < S.data.toList.length := by rw [show S.data.toList.length = S.size by simp]; exact hk
    obtain ⟨c, hcc⟩ : ∃ c, c = S.data.toList[k]'hkl := ⟨_, rfl⟩
    have HU : Hid ((S.data.toList.map vb)[k]? = some (vb c)) := Lib.hid (by rw [List.getElem?_map, List.getElem?_eq_getElem hkl, hcc]; rfl)
    have hkk : (k : Int) < (S.size : Int) := by omega
    have BD := Lib.hid ((Below.refl W.heap.size W).drew)
    have CD : Hid (Cur (World.drew W) g) := Lib.hid (C3.out.below BD.out)
    obtain ⟨z3, _⟩ := (OB.out.below BD.out).cellAt HU.out
    unfold vb at z3
    have hgb := HGB.out
    clear hcc hkl
    refine wp_region_any (by kernel_rfl) ?_
    change wpAny _ _ _ _ _ _ _ (World.drew W)
    refine wpAny_take (i := 0) (v := ?_) rfl (by kernel_rfl) (by kernel_rfl) (by kernel_rfl) (fun _ _ _ h => h) (Or.inl ⟨by rfl, ?_⟩) ?_
    rotate_left
    · (intro w; go_simp; try (with_reducible rfl))
    refine wpAny_take (i := 1) (v := ?_) rfl (by kernel_rfl) (by kernel_rfl) (by kernel_rfl) (fun _ _ _ h => h) (Or.inl ⟨by rfl, ?_⟩) ?_
    rotate_left
    · (intro w; go_simp; try (with_reducible rfl))
    refine wpAny_take (i := 2) (v := ?_) rfl (by kernel_rfl) (by kernel_rfl) (by kernel_rfl) (fun _ _ _ h => h) (Or.inl ⟨by rfl, ?_⟩) ?_
    rotate_left
    · (intro w; go_simp; try (with_reducible rfl))
    refine wpAny_take (i := 3) (v := ?_) rfl (by kernel_rfl) (by kernel_rfl) (by kernel_rfl) (fun _ _ _ h => h) (Or.inl ⟨by rfl, ?_⟩) ?_
    rotate_left
    · (intro w; go_simp; try (with_reducible rfl))
    refine wpAny_take (i := 4) (v := ?_) rfl (by kernel_rfl) (by kernel_rfl) (by kernel_rfl) (fun _ _ _ h => h) (Or.inl ⟨by rfl, ?_⟩) ?_
    rotate_left
    · (intro w; go_simp; try (with_reducible rfl))
    refine wpAny_take (i := 6) (v := ?_) rfl (by kernel_rfl) (by kernel_rfl) (by kernel_rfl) (fun _ _ _ h => h) (Or.inl ⟨by rfl, ?_⟩) ?_
    rotate_left
    · (intro w; go_simp; try (with_reducible rfl))
    refine wpAny_ready (rs := [5, 7]) (by kernel_rfl) (by simp) ?_
    refine AllReady.cons rfl (fun K hK => ?_) (AllReady.cons rfl (fun K hK => ?_) AllReady.nil)
    · go_simp
      refine hK _ _ ?_; clear hK K
      refine wpAny_ready (rs := [7]) (by kernel_rfl) (by simp) ?_
      refine AllReady.cons rfl (fun K hK => ?_) AllReady.nil
      go_simp
      go_at_call 84
      refine (below_s g 255 _ CD.out (by omega) (by omega)).mono ?_
      rintro e w4 ⟨x, hx, rfl, hc4, hg4⟩
      have C4 := Lib.hid hc4
      have G4 := Lib.hid ((G3.out.trans (.of_below BD.out)).trans hg4)
      have O4 := Lib.hid ((OB.out.below BD.out).grew hg4 (fun q hq => by have := (OB.out.lt q hq).1; omega))
      have HWW : Hid (IntKind.u8.wrap (IntKind.i64.wrap ((1 : Int) + (x : Int))) = (1 : Int) + (x : Int)) := Lib.hid (by rw [IntWalk.i64_in _ (by omega), IntKind.wrap_u8]; omega)
      have HVX : Hid (Value.int .u8 (bits BinOp.xor IntKind.u8 (c.toNat : Int) (1 + (x : Int))) = vb (c ^^^ UInt8.ofNat (1 + x))) := Lib.hid (by rw [← vb_xor, UInt8.toNat_ofNat', show (((1 + x) % 2 ^ 8 : Nat) : Int) = 1 + (x : Int) by omega])
      obtain ⟨z4, f4⟩ := O4.out.cellAt HU.out
      unfold vb at z4
      clear hc4 hg4 C3 G3
      refine hK _ _ ?_; clear hK K
      refine wpAny_take (i := 8) (v := ?_) rfl (by kernel_rfl) (by kernel_rfl) (by kernel_rfl) (fun _ _ _ h => h) (Or.inl ⟨by rfl, ?_⟩) ?_
      rotate_left
      · (intro w; go_simp; try (with_reducible rfl))
      refine wpAny_take (i := 9) (v := ?_) rfl (by kernel_rfl) (by kernel_rfl) (by kernel_rfl) (fun _ _ _ h => h) (Or.inl ⟨by rfl, ?_⟩) ?_
      rotate_left
      · (intro w; go_simp; try (with_reducible rfl))
      refine wpAny_ready (rs := [10]) (by kernel_rfl) (by simp) ?_
      refine AllReady.cons rfl (fun K hK => ?_) AllReady.nil
      go_simp
      refine hK _ _ ?_; clear hK K
      refine wpAny_ready (rs := [11]) (by kernel_rfl) (by simp) ?_
      refine AllReady.cons rfl (fun K hK => ?_) AllReady.nil
      go_simp
      refine hK _ _ ?_; clear hK K
      refine wpAny_ready (rs := [12]) (by kernel_rfl) (by simp) ?_
      refine AllReady.cons rfl (fun K hK => ?_) AllReady.nil
      go_simp
      refine hK _ _ ?_; clear hK K
      refine wpAny_done (by kernel_rfl) ?_ _
      obtain ⟨W5, hW5⟩ : ∃ W5, W5 = w4.setCell ⟨b, k, none⟩ (.int .u8 (bits BinOp.xor IntKind.u8 (c.toNat : Int) (1 + (x : Int)))) := ⟨_, rfl⟩
      rw [HWW.out, ← hW5]
      have O5 : Hid (Obs W5 b 1 (.slice (some ⟨b, 0, none⟩) S.size cap) S.size ((S.data.toList.set k (c ^^^ UInt8.ofNat (1 + x))).map vb)) := Lib.hid (by rw [hW5, HVX.out, List.map_set]; exact O4.out.set_ k (by omega) _)
      have BT : Below b w4 W5 := by rw [hW5]; exact (Below.refl b w4).setCell (p := ⟨b, k, none⟩) (Nat.le_refl b) _
      have C5 := Lib.hid (C4.out.belowB BT HGB.out)
      have G5 := Lib.hid (G4.out.below_trans (BT.mono (by rw [HBW.out]; exact GW.out.size)))
      have hst := obs_string (P := Tryd.prog) W5 44 9 5 Tryd.underlying44 Tryd.underlying5 Tryd.underlying9 O5.out
      clear hW5 BT z4 f4 C4 G4 O4
      go_wp2
      go_ret
      exact ⟨_, trivial, rfl, C5.out, G5.out⟩
    · go_simp
      go_at_call 84
      refine (below_s g 255 _ CD.out (by omega) (by omega)).mono ?_
      rintro e w4 ⟨x, hx, rfl, hc4, hg4⟩
      have C4 := Lib.hid hc4
      have G4 := Lib.hid ((G3.out.trans (.of_below BD.out)).trans hg4)
      have O4 := Lib.hid ((OB.out.below BD.out).grew hg4 (fun q hq => by have := (OB.out.lt q hq).1; omega))
      have HWW : Hid (IntKind.u8.wrap (IntKind.i64.wrap ((1 : Int) + (x : Int))) = (1 : Int) + (x : Int)) := Lib.hid (by rw [IntWalk.i64_in _ (by omega), IntKind.wrap_u8]; omega)
      have HVX : Hid (Value.int .u8 (bits BinOp.xor IntKind.u8 (c.toNat : Int) (1 + (x : Int))) = vb (c ^^^ UInt8.ofNat (1 + x))) := Lib.hid (by rw [← vb_xor, UInt8.toNat_ofNat', show (((1 + x) % 2 ^ 8 : Nat) : Int) = 1 + (x : Int) by omega])
      obtain ⟨z4, f4⟩ := O4.out.cellAt HU.out
      unfold vb at z4
      clear hc4 hg4 C3 G3
      refine hK _ _ ?_; clear hK K
      refine wpAny_take (i := 8) (v := ?_) rfl (by kernel_rfl) (by kernel_rfl) (by kernel_rfl) (fun _ _ _ h => h) (Or.inl ⟨by rfl, ?_⟩) ?_
      rotate_left
      · (intro w; go_simp; try (with_reducible rfl))
      refine wpAny_take (i := 9) (v := ?_) rfl (by kernel_rfl) (by kernel_rfl) (by kernel_rfl) (fun _ _ _ h => h) (Or.inl ⟨by rfl, ?_⟩) ?_
      rotate_left
      · (intro w; go_simp; try (with_reducible rfl))
      refine wpAny_ready (rs := [5]) (by kernel_rfl) (by simp) ?_
      refine AllReady.cons rfl (fun K hK => ?_) AllReady.nil
      go_simp
      refine hK _ _ ?_; clear hK K
      refine wpAny_ready (rs := [10]) (by kernel_rfl) (by simp) ?_
      refine AllReady.cons rfl (fun K hK => ?_) AllReady.nil
      go_simp
      refine hK _ _ ?_; clear hK K
      refine wpAny_ready (rs := [11]) (by kernel_rfl) (by simp) ?_
      refine AllReady.cons rfl (fun K hK => ?_) AllReady.nil
      go_simp
      refine hK _ _ ?_; clear hK K
      refine wpAny_ready (rs := [12]) (by kernel_rfl) (by simp) ?_
      refine AllReady.cons rfl (fun K hK => ?_) AllReady.nil
      go_simp
      refine hK _ _ ?_; clear hK K
      refine wpAny_done (by kernel_rfl) ?_ _
      obtain ⟨W5, hW5⟩ : ∃ W5, W5 = w4.setCell ⟨b, k, none⟩ (.int .u8 (bits BinOp.xor IntKind.u8 (c.toNat : Int) (1 + (x : Int)))) := ⟨_, rfl⟩
      rw [HWW.out, ← hW5]
      have O5 : Hid (Obs W5 b 1 (.slice (some ⟨b, 0, none⟩) S.size cap) S.size ((S.data.toList.set k (c ^^^ UInt8.ofNat (1 + x))).map vb)) := Lib.hid (by rw [hW5, HVX.out, List.map_set]; exact O4.out.set_ k (by omega) _)
      have BT : Below b w4 W5 := by rw [hW5]; exact (Below.refl b w4).setCell (p := ⟨b, k, none⟩) (Nat.le_refl b) _
      have C5 := Lib.hid (C4.out.belowB BT HGB.out)
      have G5 := Lib.hid (G4.out.below_trans (BT.mono (by rw [HBW.out]; exact GW.out.size)))
      have hst := obs_string (P := Tryd.prog) W5 44 9 5 Tryd.underlying44 Tryd.underlying5 Tryd.underlying9 O5.out
      clear hW5 BT z4 f4 C4 G4 O4
      go_wp2
      go_ret
      exact ⟨_, trivial, rfl, C5.out, G5.out⟩
/-- a key and a text have been drawn -/
def GivesKT (w : World) (e : Ending) (w' : World) : Prop := ∃ k t : ByteArray, KeyD k ∧ TextD t ∧ e = .returned (.tuple #[.string k, .string t]) ∧ Below w.heap.size w w'
def GivesKTG (w : World) (e : Ending) (w' : World) : Prop := ∃ k t g : ByteArray, KeyD k ∧ TextD t ∧ e = .returned (.tuple #[.string k, .string t, .string g]) ∧ Below w.heap.size w w'
theorem KeyD.le {k : ByteArray} (h : KeyD k) : k.size ≤ 100 := by
  obtain ⟨L, b, hL, _, rfl⟩ := h
  rw [str_size, List.length_replicate]
  have : ∀ L ∈ keyLens, L ≤ 100 := by decide
  exact this L hL
theorem TextD.le {t : ByteArray} (h : TextD t) : t.size ≤ 98 := by
  obtain ⟨p, n, hp, hn, rfl⟩ := h
  rw [str_size, byts_len, List.length_append, List.length_replicate]
  have : ∀ p ∈ pres, p.length ≤ 28 := by decide
  have := this p hp
  omega
theorem drawHmac_s (v : Value) (n : Nat) (xs : List Int) (w : World) (hv : Rd w 1 v n (xs.map (Value.int .u8))) (hx : ∀ x ∈ xs, 0 ≤ x ∧ x ≤ 255) (hn : n ≤ 1048576) :
    Calls Tryd.prog 85 #[v] w (GivesKT w) := by
  obtain ⟨A, cap, rfl, hm⟩ := hv.shape
  have HV := Lib.hid hv
  have HX := Lib.hid hx
  clear hv hx hm
  go_enter Tryd.func85, Tryd.ntmps85
  go_wp2_with fail
  refine (new_s _ n xs _ HV.out HX.out hn).mono ?_
  rintro e w1 ⟨rfl, hc, hb⟩
  obtain ⟨g, hg⟩ : ∃ g, g = w.heap.size := ⟨_, rfl⟩
  rw [← hg] at hc ⊢
  have HG : Hid (w.heap.size ≤ g) := Lib.hid (by omega)
  have C1 := Lib.hid hc
  have L1 := Lib.hid hb
  clear hc hb hg
  go_wp2_with fail
  refine (key_s g _ C1.out).mono ?_
  rintro e w2 ⟨k, hk, rfl, hc, hgr⟩
  have HK := Lib.hid hk
  have C2 := Lib.hid hc
  have L2 := Lib.hid (L1.out.trans (hgr.below L1.out.size HG.out))
  clear hk hc hgr C1 L1
  go_wp2_with fail
  refine (text3_s g _ C2.out).mono ?_
  rintro e w3 ⟨t, ht, rfl, hc, hgr⟩
  have HT := Lib.hid ht
  have L3 := Lib.hid (L2.out.trans (hgr.below L2.out.size HG.out))
  clear ht hc hgr C2 L2
  go_wp2
  go_ret2
  exact ⟨k, t, HK.out, HT.out, rfl, L3.out⟩
theorem drawHmacOk_s (v : Value) (n : Nat) (xs : List Int) (w : World) (hv : Rd w 1 v n (xs.map (Value.int .u8))) (hx : ∀ x ∈ xs, 0 ≤ x ∧ x ≤ 255) (hn : n ≤ 1048576) :
    Calls Tryd.prog 60 #[v] w (GivesKTG w) := by
  obtain ⟨A, cap, rfl, hm⟩ := hv.shape
  have HV := Lib.hid hv
  have HX := Lib.hid hx
  clear hv hx hm
  go_enter Tryd.func60, Tryd.ntmps60
  go_wp2_with fail
  refine (new_s _ n xs _ HV.out HX.out hn).mono ?_
  rintro e w1 ⟨rfl, hc, hb⟩
  obtain ⟨g, hg⟩ : ∃ g, g = w.heap.size := ⟨_, rfl⟩
  rw [← hg] at hc ⊢
  have HG : Hid (w.heap.size ≤ g) := Lib.hid (by omega)
  have C1 := Lib.hid hc
  have L1 := Lib.hid hb
  clear hc hb hg
  go_wp2_with fail
  refine (below_s g 3 _ C1.out (by omega) (by omega)).mono ?_
  rintro e w2 ⟨x, hx3, rfl, hc, hgr⟩
  have C2 := Lib.hid hc
  have L2 := Lib.hid (L1.out.trans (hgr.below L1.out.size HG.out))
  clear hc hgr C1 L1
  go_wp2_with fail
  refine (drawHmac_s _ n xs _ (HV.out.below L2.out) HX.out hn).mono ?_
  rintro e w3 ⟨k, t, hk, ht, rfl, hb⟩
  have HK := Lib.hid hk
  have HT := Lib.hid ht
  have C3 := Lib.hid (C2.out.below hb)
  have L3 := Lib.hid (L2.out.trans (hb.mono L2.out.size))
  clear hk ht hb C2 L2
  go_wp2_with fail
  refine (hmac_s k t _ (by have := HK.out.le; omega) (by have := HT.out.le; omega)).mono ?_
  obtain ⟨m, hm⟩ : ∃ m, m = str (hmacL k.data.toList t.data.toList) := ⟨_, rfl⟩
  have hms : m.size = 32 := by rw [hm, str_size, hmacL_len]
  rw [← hm]
  rintro e w4 ⟨rfl, hb⟩
  have C4 := Lib.hid (C3.out.below hb)
  have L4 := Lib.hid (L3.out.trans (hb.mono L3.out.size))
  have HMS := Lib.hid hms
  clear hb C3 L3 hm hms
  by_cases hx0 : x = 0
  · have q1 : ((x : Int) == 0) = true := by simp; omega
    clear hx0 hx3
    go_wp2_with fail
    refine (spoilt_s m g _ C4.out (by rw [HMS.out]; omega) (by rw [HMS.out]; omega)).mono ?_
    rintro e w5 ⟨u, _, rfl, hc, hgr⟩
    have L5 := Lib.hid (L4.out.trans (hgr.below L4.out.size HG.out))
    clear hc hgr C4 L4
    go_wp2
    go_ret3
    exact ⟨k, t, u, HK.out, HT.out, rfl, L5.out⟩
  · have q1 : ((x : Int) == 0) = false := by simp; omega
    clear hx0 hx3
    go_wp2
    go_ret3
    exact ⟨k, t, m, HK.out, HT.out, rfl, L4.out⟩
end Go.Proofs.YtmhekefjlepfpaaDoor

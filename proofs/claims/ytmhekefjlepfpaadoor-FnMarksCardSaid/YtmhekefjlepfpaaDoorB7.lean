/- The walks: HMAC's key, the mixing of its bytes, HMAC. -/
import Derived.Test.YtmhekefjlepfpaaDoorProg
import Derived.Test.YtmhekefjlepfpaaDoorK
import Derived.Test.YtmhekefjlepfpaaDoorK2
import Derived.Test.YtmhekefjlepfpaaDoorK3
import Derived.Test.YtmhekefjlepfpaaDoorK4
import Derived.Test.YtmhekefjlepfpaaDoorS
import Derived.Test.YtmhekefjlepfpaaDoorS2
import Derived.Test.YtmhekefjlepfpaaDoorA1
import Derived.Test.YtmhekefjlepfpaaDoorB1
import Derived.Test.YtmhekefjlepfpaaDoorB4
import Derived.Test.YtmhekefjlepfpaaDoorB6
import Derived.Outline
namespace Go.Proofs.YtmhekefjlepfpaaDoor
open Go.RowKit
set_option linter.unusedVariables false
set_option linter.unusedSimpArgs false

theorem str_add' (a : ByteArray) (b : List UInt8) : a ++ str b = str (a.data.toList ++ b) := by
  unfold str
  simp [ByteArray.ext_iff]
theorem str_add'' (a : List UInt8) (b : ByteArray) : str a ++ b = str (a ++ b.data.toList) := by
  unfold str
  simp [ByteArray.ext_iff]
theorem vb_xor (c b : UInt8) : Value.int .u8 (bits BinOp.xor IntKind.u8 (c.toNat : Int) (b.toNat : Int)) = vb (c ^^^ b) := by
  rw [u8_xor_nat _ _ c.toNat_lt b.toNat_lt, vb, UInt8.toNat_xor]
theorem xor_set {l : List UInt8} {k : Nat} (b : UInt8) (h : k < l.length) :
    (((xorL l b).take k ++ l.drop k).map vb).set k (vb (l[k] ^^^ b)) = ((xorL l b).take (k + 1) ++ l.drop (k + 1)).map vb := by
  have hl : k < (xorL l b).length := by rw [xorL_len]; exact h
  rw [List.drop_eq_getElem_cons h, List.map_append, List.map_cons, List.set_append_right _ _ (by simp; omega), List.take_succ_eq_append_getElem hl]
  rw [List.length_map, List.length_take, Nat.min_eq_left (Nat.le_of_lt hl), Nat.sub_self, List.set_cons_zero, List.map_append, List.map_append, List.append_assoc]
  simp [xorL]

theorem hmacKey_i_low (s : ByteArray) (w : World) (hs : s.size ≤ 64) :
    Calls Tryd.prog 33 #[.string s] w fun e w' => e = .returned (.string (str (s.data.toList ++ List.replicate (64 - s.size) 0))) ∧ Below w.heap.size w w' := by
  obtain ⟨i0, hi, hz0, hz1, hz2⟩ := info_parts u8_info
  obtain ⟨z, hz⟩ : ∃ z, z = 64 - s.size := ⟨_, rfl⟩
  have hz64 : z ≤ 64 := by omega
  have hzi : (64 : Int) - (s.size : Int) = (z : Int) := by omega
  rw [← hz]
  have HZ := Lib.hid hz
  clear hz
  obtain ⟨ZC, hZC, hmk⟩ : ∃ ZC : Array Value, Hid (ZC.toList = (List.replicate z (0 : UInt8)).map vb ∧ ZC.size = z) ∧ ∀ W, Sem.run Tryd.prog (Instr.makeSlice 44 (.int .i64 (z : Int)) (.int .i64 (z : Int))) W = .ok (.slice (some ⟨W.heap.size, 0, none⟩) z z) (W.alloc (.cells ZC 5)) :=
    ⟨_, Lib.hid ⟨by rw [hz1, zeros_eq], by rw [hz1]; simp [madeCells, Value.cells]⟩, make_eq 44 5 i0 (.int .u8 0) Tryd.underlying44 hi hz0 z (by rw [hz2]; omega) (by unfold maxLen; omega)⟩
  have hcv : ∀ W : World, Sem.run Tryd.prog (convert 44 9 (.slice (some ⟨W.heap.size, 0, none⟩) z z)) (W.alloc (.cells ZC 5)) = .ok (.string (str (List.replicate z 0))) (W.alloc (.cells ZC 5)) := fun W => by
    have ho := World.ownsRow_lit (base := W.heap.size) (e := 5) (size := 1) W ZC z (Nat.le_refl _) (by unfold maxLen; omega) (by rw [hZC.out.2]; simp)
    rw [hZC.out.1] at ho
    exact own_string _ 44 9 5 Tryd.underlying44 Tryd.underlying5 Tryd.underlying9 ho
  have s1 : (str (List.replicate z 0)).size = z := by simp [str_size]
  have hle : ¬ 64 < s.size := by omega
  have HE := Lib.hid (str_add' s (List.replicate z 0))
  go_enter Tryd.func33, Tryd.ntmps33
  go_wp2
  go_ret
  exact ⟨ret_str HE.out, (Below.refl _ _).alloc (Nat.le_refl _) _⟩
theorem hmacKey_i_high (s : ByteArray) (w : World) (h64 : 64 < s.size) (hs : s.size ≤ 100000000) (hK : HoldsK w) (hS : HoldsS w) :
    Calls Tryd.prog 33 #[.string s] w fun e w' => e = .returned (.string (str (digL s.data.toList ++ List.replicate 32 0))) ∧ Below w.heap.size w w' := by
  obtain ⟨i0, hi, hz0, hz1, hz2⟩ := info_parts u8_info
  obtain ⟨ZC, hZC, hmk⟩ : ∃ ZC : Array Value, Hid (ZC.toList = (List.replicate 32 (0 : UInt8)).map vb ∧ ZC.size = 32) ∧ ∀ W, Sem.run Tryd.prog (Instr.makeSlice 44 (.int .i64 ((32 : Nat) : Int)) (.int .i64 ((32 : Nat) : Int))) W = .ok (.slice (some ⟨W.heap.size, 0, none⟩) 32 32) (W.alloc (.cells ZC 5)) :=
    ⟨_, Lib.hid ⟨by rw [hz1, zeros_eq], by rw [hz1]; simp [madeCells, Value.cells]⟩, make_eq 44 5 i0 (.int .u8 0) Tryd.underlying44 hi hz0 32 (by rw [hz2]; omega) (by unfold maxLen; omega)⟩
  rw [show ((32 : Nat) : Int) = 32 from rfl] at hmk
  have hcv : ∀ W : World, Sem.run Tryd.prog (convert 44 9 (.slice (some ⟨W.heap.size, 0, none⟩) 32 32)) (W.alloc (.cells ZC 5)) = .ok (.string (str (List.replicate 32 0))) (W.alloc (.cells ZC 5)) := fun W => by
    have ho := World.ownsRow_lit (base := W.heap.size) (e := 5) (size := 1) W ZC 32 (Nat.le_refl _) (by unfold maxLen; omega) (by rw [hZC.out.2])
    rw [hZC.out.1] at ho
    exact own_string _ 44 9 5 Tryd.underlying44 Tryd.underlying5 Tryd.underlying9 ho
  obtain ⟨Z, hZ⟩ : ∃ Z, Z = str (List.replicate 32 (0 : UInt8)) := ⟨_, rfl⟩
  rw [← hZ] at hcv
  have s1 : Z.size = 32 := by rw [hZ, str_size]; simp
  obtain ⟨D, hD⟩ : ∃ D, D = str (digL s.data.toList) := ⟨_, rfl⟩
  have s2 : D.size = 32 := by rw [hD, str_size, digL_len]
  have HE : Hid (D ++ Z = str (digL s.data.toList ++ List.replicate 32 0)) := Lib.hid (by rw [hD, hZ, str_add])
  have HD := Lib.hid hD
  have HKS := Lib.hid (And.intro hK hS)
  clear hD hZ hK hS
  go_enter Tryd.func33, Tryd.ntmps33
  go_wp2_with fail
  refine (digest_i s _ hs HKS.out.1 HKS.out.2).mono ?_
  rintro e w1 ⟨rfl, hb1⟩
  rw [← HD.out]
  go_wp2
  go_ret
  exact ⟨ret_str HE.out, hb1.alloc hb1.size _⟩
theorem hmacKey_i (s : ByteArray) (w : World) (hs : s.size ≤ 100000000) (hK : HoldsK w) (hS : HoldsS w) :
    Calls Tryd.prog 33 #[.string s] w fun e w' => e = .returned (.string (str (hkeyL s.data.toList))) ∧ Below w.heap.size w w' := by
  have hl : s.data.toList.length = s.size := by simp
  by_cases h : 64 < s.size
  · have e : hkeyL s.data.toList = digL s.data.toList ++ List.replicate 32 0 := by
      unfold hkeyL keyS; rw [if_pos (by omega), digL_len]
    rw [e]; exact hmacKey_i_high s w h hs hK hS
  · have e : hkeyL s.data.toList = s.data.toList ++ List.replicate (64 - s.size) 0 := by
      unfold hkeyL keyS; rw [if_neg (by omega), hl]
    rw [e]; exact hmacKey_i_low s w (by omega)
theorem mixed_i (l : List UInt8) (b : UInt8) (w : World) (hl : l.length ≤ 1000) :
    Calls Tryd.prog 77 #[.string (str l), .int .u8 (b.toNat : Int)] w fun e w' => e = .returned (.string (str (xorL l b))) ∧ Below w.heap.size w w' := by
  obtain ⟨t, ht⟩ : ∃ t, t = str l := ⟨_, rfl⟩
  have hts : t.size = l.length := by rw [ht, str_size]
  have htl : t.data.toList = l := by rw [ht, str_toList]
  obtain ⟨n, hn⟩ : ∃ n, n = l.length := ⟨_, rfl⟩
  rw [← hn] at hts
  obtain ⟨cap, hcap1, hcap2, hcv⟩ : ∃ cap, n ≤ cap ∧ cap ≤ maxLen ∧ Sem.run Tryd.prog (convert 9 44 (.string t)) w = .ok (.slice (some ⟨w.heap.size, 0, none⟩) n cap) (w.drew.alloc (.cells (bytesRow t cap) 5 ((bytesRow t cap).size, (bytesRow t cap).size + 1))) := by
    rw [← hts]
    exact ⟨_, grownCap_ge _ _ _ _, grownCap_le_maxLen _ _ _ _ (by unfold maxLen; omega), run_bytes_of_string (P := Tryd.prog) w 9 44 5 t Tryd.underlying9 Tryd.underlying44 Tryd.underlying5⟩
  have ho := obs_bytes w.drew w.heap.size 5 t cap (by omega) hcap2 (Nat.le_refl _)
  rw [hts, htl] at ho
  have O0 : Hid (Obs (w.drew.alloc (.cells (bytesRow t cap) 5 ((bytesRow t cap).size, (bytesRow t cap).size + 1))) w.heap.size 1 (.slice (some ⟨w.heap.size, 0, none⟩) n cap) n (((xorL l b).take 0 ++ l.drop 0).map vb)) := Lib.hid (by simpa using ho)
  rw [← ht]
  have HL := Lib.hid hn
  clear ho ht hn hts htl hcap1
  go_enter Tryd.func77, Tryd.ntmps77
  go_wp2
  go_loopw [11] (fun i wr => ∃ k : Nat, k ≤ n ∧ i = .int .i64 (k : Int) ∧ Hid (Obs wr w.heap.size 1 (.slice (some ⟨w.heap.size, 0, none⟩) n cap) n (((xorL l b).take k ++ l.drop k).map vb)) ∧ Hid (Below w.heap.size w wr)) (fun i _ => n - (intOf i).toNat)
  case atStart => exact ⟨0, Nat.zero_le _, rfl, O0, Lib.hid ((Below.refl _ w).drew.alloc (Nat.le_refl _) _)⟩
  case round =>
    clear O0
    obtain ⟨k, hk, rfl, HO, HN⟩ := hrel
    by_cases hlt : k < n
    · have hkl : k < l.length := by have := HL.out; omega
      have hu : (((xorL l b).take k ++ l.drop k).map vb)[k]? = some (vb l[k]) := by
        rw [List.getElem?_map, List.getElem?_append_right (by simp; omega)]
        simp [xorL, Nat.min_eq_left (Nat.le_of_lt hkl), hkl]
      obtain ⟨hcell, hfr⟩ := HO.out.cellAt hu
      have H2 := HO.out.set_ k (by omega) (vb (l[k] ^^^ b))
      rw [xor_set b hkl, ← vb_xor] at H2
      have HX := Lib.hid H2
      have HN2 := Lib.hid (HN.out.setCell (p := ⟨w.heap.size, k, none⟩) (Nat.le_refl _) (vb (l[k] ^^^ b)))
      rw [← vb_xor] at HN2
      unfold vb at hcell
      clear H2 HO HN hu
      obtain ⟨c, hc⟩ : ∃ c, c = l[k] := ⟨_, rfl⟩
      rw [← hc] at hcell HX HN2
      clear hc
      go_wp2
      go_roundw
      case rel => exact ⟨k + 1, by omega, by go_num, HX, HN2⟩
      case measure => simp [intOf]; omega
    · obtain rfl : k = n := by omega
      have hob : Obs wr w.heap.size 1 (.slice (some ⟨w.heap.size, 0, none⟩) k cap) k ((xorL l b).map vb) := by
        have h2 := HO.out
        rw [List.drop_of_length_le (by have := HL.out; omega), List.append_nil, List.take_of_length_le (by rw [xorL_len]; have := HL.out; omega)] at h2
        exact h2
      have hst := obs_string (P := Tryd.prog) wr 44 9 5 Tryd.underlying44 Tryd.underlying5 Tryd.underlying9 hob
      clear hob
      go_wp2
      go_ret
      exact ⟨rfl, HN.out⟩
theorem mixed_s (l : List UInt8) (b : UInt8) (w : World) (hl : l.length ≤ 1000) :
    Calls Tryd.prog 76 #[.string (str l), .int .u8 (b.toNat : Int)] w fun e w' => e = .returned (.string (str (xorL l b))) ∧ Below w.heap.size w w' := by
  obtain ⟨t, ht⟩ : ∃ t, t = str l := ⟨_, rfl⟩
  have hts : t.size = l.length := by rw [ht, str_size]
  have htl : t.data.toList = l := by rw [ht, str_toList]
  obtain ⟨n, hn⟩ : ∃ n, n = l.length := ⟨_, rfl⟩
  rw [← hn] at hts
  obtain ⟨cap, hcap1, hcap2, hcv⟩ : ∃ cap, n ≤ cap ∧ cap ≤ maxLen ∧ Sem.run Tryd.prog (convert 9 44 (.string t)) w = .ok (.slice (some ⟨w.heap.size, 0, none⟩) n cap) (w.drew.alloc (.cells (bytesRow t cap) 5 ((bytesRow t cap).size, (bytesRow t cap).size + 1))) := by
    rw [← hts]
    exact ⟨_, grownCap_ge _ _ _ _, grownCap_le_maxLen _ _ _ _ (by unfold maxLen; omega), run_bytes_of_string (P := Tryd.prog) w 9 44 5 t Tryd.underlying9 Tryd.underlying44 Tryd.underlying5⟩
  have ho := obs_bytes w.drew w.heap.size 5 t cap (by omega) hcap2 (Nat.le_refl _)
  rw [hts, htl] at ho
  have O0 : Hid (Obs (w.drew.alloc (.cells (bytesRow t cap) 5 ((bytesRow t cap).size, (bytesRow t cap).size + 1))) w.heap.size 1 (.slice (some ⟨w.heap.size, 0, none⟩) n cap) n (((xorL l b).take 0 ++ l.drop 0).map vb)) := Lib.hid (by simpa using ho)
  rw [← ht]
  have HL := Lib.hid hn
  clear ho ht hn hts htl hcap1
  go_enter Tryd.func76, Tryd.ntmps76
  go_wp2
  go_loopw [6] (fun i wr => ∃ k : Nat, k ≤ n ∧ i = .int .i64 (k : Int) ∧ Hid (Obs wr w.heap.size 1 (.slice (some ⟨w.heap.size, 0, none⟩) n cap) n (((xorL l b).take k ++ l.drop k).map vb)) ∧ Hid (Below w.heap.size w wr)) (fun i _ => n - (intOf i).toNat)
  case atStart => exact ⟨0, Nat.zero_le _, rfl, O0, Lib.hid ((Below.refl _ w).drew.alloc (Nat.le_refl _) _)⟩
  case round =>
    clear O0
    obtain ⟨k, hk, rfl, HO, HN⟩ := hrel
    by_cases hlt : k < n
    · have hkl : k < l.length := by have := HL.out; omega
      have hu : (((xorL l b).take k ++ l.drop k).map vb)[k]? = some (vb l[k]) := by
        rw [List.getElem?_map, List.getElem?_append_right (by simp; omega)]
        simp [xorL, Nat.min_eq_left (Nat.le_of_lt hkl), hkl]
      obtain ⟨hcell, hfr⟩ := HO.out.cellAt hu
      have H2 := HO.out.set_ k (by omega) (vb (l[k] ^^^ b))
      rw [xor_set b hkl, ← vb_xor] at H2
      have HX := Lib.hid H2
      have HN2 := Lib.hid (HN.out.setCell (p := ⟨w.heap.size, k, none⟩) (Nat.le_refl _) (vb (l[k] ^^^ b)))
      rw [← vb_xor] at HN2
      unfold vb at hcell
      clear H2 HO HN hu
      obtain ⟨c, hc⟩ : ∃ c, c = l[k] := ⟨_, rfl⟩
      rw [← hc] at hcell HX HN2
      clear hc
      go_wp2
      go_roundw
      case rel => exact ⟨k + 1, by omega, by go_num, HX, HN2⟩
      case measure => simp [intOf]; omega
    · obtain rfl : k = n := by omega
      have hob : Obs wr w.heap.size 1 (.slice (some ⟨w.heap.size, 0, none⟩) k cap) k ((xorL l b).map vb) := by
        have h2 := HO.out
        rw [List.drop_of_length_le (by have := HL.out; omega), List.append_nil, List.take_of_length_le (by rw [xorL_len]; have := HL.out; omega)] at h2
        exact h2
      have hst := obs_string (P := Tryd.prog) wr 44 9 5 Tryd.underlying44 Tryd.underlying5 Tryd.underlying9 hob
      clear hob
      go_wp2
      go_ret
      exact ⟨rfl, HN.out⟩
end Go.Proofs.YtmhekefjlepfpaaDoor

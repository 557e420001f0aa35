/- The walks: HMAC, the cut digests and marks, tokens. -/
import Derived.Test.YtmhekefjlepfpaaDoorProg
import Derived.Test.YtmhekefjlepfpaaDoorK
import Derived.Test.YtmhekefjlepfpaaDoorK2
import Derived.Test.YtmhekefjlepfpaaDoorK3
import Derived.Test.YtmhekefjlepfpaaDoorK4
import Derived.Test.YtmhekefjlepfpaaDoorN
import Derived.Test.YtmhekefjlepfpaaDoorS
import Derived.Test.YtmhekefjlepfpaaDoorS2
import Derived.Test.YtmhekefjlepfpaaDoorA1
import Derived.Test.YtmhekefjlepfpaaDoorA2
import Derived.Test.YtmhekefjlepfpaaDoorA3
import Derived.Test.YtmhekefjlepfpaaDoorA5
import Derived.Test.YtmhekefjlepfpaaDoorB1
import Derived.Test.YtmhekefjlepfpaaDoorB4
import Derived.Test.YtmhekefjlepfpaaDoorB6
import Derived.Test.YtmhekefjlepfpaaDoorB7
import Derived.Outline
namespace Go.Proofs.YtmhekefjlepfpaaDoor
open Go.RowKit
set_option linter.unusedVariables false
set_option linter.unusedSimpArgs false

theorem rep_set {n k : Nat} (x : UInt8) (h : k < n) : ((List.replicate k x ++ List.replicate (n - k) 0).map vb).set k (vb x) = (List.replicate (k + 1) x ++ List.replicate (n - (k + 1)) 0).map vb := by
  rw [show n - k = (n - (k + 1)) + 1 by omega, List.replicate_succ, List.map_append, List.map_cons, List.set_append_right _ _ (by simp)]
  rw [List.length_map, List.length_replicate, Nat.sub_self, List.set_cons_zero, List.replicate_succ']
  simp
theorem app_toList (a b : ByteArray) : (a ++ b).data.toList = a.data.toList ++ b.data.toList := by simp
theorem long_s (n : Nat) (x : UInt8) (w : World) (hn : n ≤ 1000000) :
    Calls Tryd.prog 73 #[.int .i64 (n : Int), .int .u8 (x.toNat : Int)] w fun e w' => e = .returned (.string (str (List.replicate n x))) ∧ Below w.heap.size w w' := by
  obtain ⟨i0, hi, hz0, hz1, hz2⟩ := info_parts u8_info
  obtain ⟨ZC, hZC, hmk⟩ : ∃ ZC : Array Value, Hid (ZC.toList = (List.replicate n (0 : UInt8)).map vb ∧ ZC.size = n) ∧ ∀ W, Sem.run Tryd.prog (Instr.makeSlice 44 (.int .i64 (n : Int)) (.int .i64 (n : Int))) W = .ok (.slice (some ⟨W.heap.size, 0, none⟩) n n) (W.alloc (.cells ZC 5)) :=
    ⟨_, Lib.hid ⟨by rw [hz1, zeros_eq], by rw [hz1]; simp [madeCells, Value.cells]⟩, make_eq 44 5 i0 (.int .u8 0) Tryd.underlying44 hi hz0 n (by rw [hz2]; omega) (by unfold maxLen; omega)⟩
  have ho := World.ownsRow_lit (base := w.heap.size) (e := 5) (size := 1) w ZC n (Nat.le_refl _) (by unfold maxLen; omega) (by rw [hZC.out.2]; simp)
  rw [hZC.out.1] at ho
  have O0 : Hid (Obs (w.alloc (.cells ZC 5)) w.heap.size 1 (.slice (some ⟨w.heap.size, 0, none⟩) n n) n ((List.replicate 0 x ++ List.replicate (n - 0) 0).map vb)) := Lib.hid (by simpa using Obs.of_own ho)
  have L0 : Hid (Below w.heap.size w (w.alloc (.cells ZC 5))) := Lib.hid ((Below.refl _ _).alloc (Nat.le_refl _) _)
  have hx := x.toNat_lt
  clear ho
  go_enter Tryd.func73, Tryd.ntmps73
  go_wp2
  go_loopw [6] (fun i wr => ∃ k : Nat, k ≤ n ∧ i = .int .i64 (k : Int) ∧ Hid (Obs wr w.heap.size 1 (.slice (some ⟨w.heap.size, 0, none⟩) n n) n ((List.replicate k x ++ List.replicate (n - k) 0).map vb)) ∧ Hid (Below w.heap.size w wr)) (fun i _ => n - (intOf i).toNat)
  case atStart => exact ⟨0, Nat.zero_le _, rfl, O0, L0⟩
  case round =>
    clear O0 L0
    obtain ⟨k, hk, rfl, HO, HN⟩ := hrel
    by_cases hlt : k < n
    · obtain ⟨u, hu⟩ : ∃ u, ((List.replicate k x ++ List.replicate (n - k) 0).map vb)[k]? = some u := ⟨_, List.getElem?_eq_getElem (by simp; omega)⟩
      obtain ⟨hcell, hfr⟩ := HO.out.cellAt hu
      have H2 := HO.out.set_ k (by omega) (vb x)
      rw [rep_set x hlt] at H2
      have HX := Lib.hid H2
      have HN2 := Lib.hid (HN.out.setCell (p := ⟨w.heap.size, k, none⟩) (Nat.le_refl _) (vb x))
      clear H2 HO HN hu
      go_wp2
      go_roundw
      case rel => exact ⟨k + 1, by omega, by go_num, HX, HN2⟩
      case measure => simp [intOf]; omega
    · obtain rfl : k = n := by omega
      have hob : Obs wr w.heap.size 1 (.slice (some ⟨w.heap.size, 0, none⟩) k k) k ((List.replicate k x).map vb) := by
        have h2 := HO.out
        rw [Nat.sub_self, List.replicate_zero, List.append_nil] at h2
        exact h2
      have hst := obs_string (P := Tryd.prog) wr 44 9 5 Tryd.underlying44 Tryd.underlying5 Tryd.underlying9 hob
      clear hob
      go_wp2
      go_ret
      exact ⟨rfl, HN.out⟩
theorem hmacKey_s_low (s : ByteArray) (w : World) (hs : s.size ≤ 64) :
    Calls Tryd.prog 32 #[.string s] w fun e w' => e = .returned (.string (str (s.data.toList ++ List.replicate (64 - s.size) 0))) ∧ Below w.heap.size w w' := by
  obtain ⟨z, hz⟩ : ∃ z, z = 64 - s.size := ⟨_, rfl⟩
  have hz64 : z ≤ 64 := by omega
  have hzi : (64 : Int) - (s.size : Int) = (z : Int) := by omega
  rw [← hz]
  have HZ := Lib.hid hz
  clear hz
  obtain ⟨Z, hZ⟩ : ∃ Z, Z = str (List.replicate z (0 : UInt8)) := ⟨_, rfl⟩
  have s1 : Z.size = z := by rw [hZ, str_size]; simp
  have hle : ¬ 64 < s.size := by omega
  have HE : Hid (s ++ Z = str (s.data.toList ++ List.replicate z 0)) := Lib.hid (by rw [hZ, str_add'])
  have H2 := Lib.hid hZ
  clear hZ
  go_enter Tryd.func32, Tryd.ntmps32
  go_wp2_with fail
  refine (long_s z 0 _ (by omega)).mono ?_
  rintro e w1 ⟨rfl, hb1⟩
  rw [← H2.out]
  go_wp2
  go_ret
  exact ⟨ret_str HE.out, hb1⟩
theorem hmacKey_s_high (s : ByteArray) (w : World) (h64 : 64 < s.size) (hs : s.size ≤ 100000000) :
    Calls Tryd.prog 32 #[.string s] w fun e w' => e = .returned (.string (str (digL s.data.toList ++ List.replicate 32 0))) ∧ Below w.heap.size w w' := by
  obtain ⟨Z, hZ⟩ : ∃ Z, Z = str (List.replicate 32 (0 : UInt8)) := ⟨_, rfl⟩
  have s1 : Z.size = 32 := by rw [hZ, str_size]; simp
  obtain ⟨D, hD⟩ : ∃ D, D = str (digL s.data.toList) := ⟨_, rfl⟩
  have s2 : D.size = 32 := by rw [hD, str_size, digL_len]
  have HE : Hid (D ++ Z = str (digL s.data.toList ++ List.replicate 32 0)) := Lib.hid (by rw [hD, hZ, str_add])
  have HD := Lib.hid hD
  have HZ := Lib.hid hZ
  clear hD hZ
  go_enter Tryd.func32, Tryd.ntmps32
  go_wp2_with fail
  refine (digest_s s _ hs).mono ?_
  rintro e w1 ⟨rfl, hb1⟩
  rw [← HD.out]
  go_wp2_with fail
  refine (long_s 32 0 _ (by omega)).mono ?_
  rintro e w2 ⟨rfl, hb2⟩
  rw [← HZ.out]
  go_wp2
  go_ret
  exact ⟨ret_str HE.out, hb1.trans (hb2.mono hb1.size)⟩
theorem hmacKey_s (s : ByteArray) (w : World) (hs : s.size ≤ 100000000) :
    Calls Tryd.prog 32 #[.string s] w fun e w' => e = .returned (.string (str (hkeyL s.data.toList))) ∧ Below w.heap.size w w' := by
  have hl : s.data.toList.length = s.size := by simp
  by_cases h : 64 < s.size
  · have e : hkeyL s.data.toList = digL s.data.toList ++ List.replicate 32 0 := by
      unfold hkeyL keyS; rw [if_pos (by omega), digL_len]
    rw [e]; exact hmacKey_s_high s w h hs
  · have e : hkeyL s.data.toList = s.data.toList ++ List.replicate (64 - s.size) 0 := by
      unfold hkeyL keyS; rw [if_neg (by omega), hl]
    rw [e]; exact hmacKey_s_low s w (by omega)
theorem hmac_i (k t : ByteArray) (w : World) (hk : k.size ≤ 10000000) (ht : t.size ≤ 10000000) (hK : HoldsK w) (hS : HoldsS w) :
    Calls Tryd.prog 40 #[.string k, .string t] w fun e w' => e = .returned (.string (str (hmacL k.data.toList t.data.toList))) ∧ Below w.heap.size w w' := by
  obtain ⟨K, hKe⟩ : ∃ K, K = hkeyL k.data.toList := ⟨_, rfl⟩
  have hKl : K.length = 64 := by rw [hKe, hkeyL_len]
  obtain ⟨M, hM⟩ : ∃ M, M = str (xorL K 92) := ⟨_, rfl⟩
  have s1 : M.size = 64 := by rw [hM, str_size, xorL_len, hKl]
  obtain ⟨I, hI⟩ : ∃ I, I = str (xorL K 54) := ⟨_, rfl⟩
  have s2 : I.size = 64 := by rw [hI, str_size, xorL_len, hKl]
  obtain ⟨D, hD⟩ : ∃ D, D = str (digL (I ++ t).data.toList) := ⟨_, rfl⟩
  have s3 : D.size = 32 := by rw [hD, str_size, digL_len]
  have s4 : Hid ((I ++ t).size ≤ 100000000) := Lib.hid (by rw [ByteArray.size_append]; omega)
  have s5 : Hid ((M ++ D).size ≤ 100000000) := Lib.hid (by rw [ByteArray.size_append]; omega)
  have HE : Hid (str (digL (M ++ D).data.toList) = str (hmacL k.data.toList t.data.toList)) := Lib.hid (by
    unfold hmacL
    rw [hD, app_toList M, str_toList, app_toList I, hM, hI, str_toList, str_toList, hKe])
  have H1 := Lib.hid hKe
  have H2 := Lib.hid hM
  have H3 := Lib.hid hI
  have H4 := Lib.hid hD
  have H5 := Lib.hid hKl
  have HKS := Lib.hid (And.intro hK hS)
  clear hKe hM hI hD hKl hK hS
  go_enter Tryd.func40, Tryd.ntmps40
  go_wp2_with fail
  refine (hmacKey_i k _ (by omega) HKS.out.1 HKS.out.2).mono ?_
  rintro e w1 ⟨rfl, hb1⟩
  have L1 := Lib.hid hb1
  clear hb1
  rw [← H1.out]
  go_wp2_with fail
  refine (mixed_i K 92 _ (by rw [H5.out]; omega)).mono ?_
  rintro e w2 ⟨rfl, hb2⟩
  have L2 := Lib.hid (L1.out.trans (hb2.mono L1.out.size))
  clear hb2
  rw [← H2.out]
  go_wp2_with fail
  refine (mixed_i K 54 _ (by rw [H5.out]; omega)).mono ?_
  rintro e w3 ⟨rfl, hb3⟩
  have L3 := Lib.hid (L2.out.trans (hb3.mono L2.out.size))
  clear hb3
  rw [← H3.out]
  go_wp2_with fail
  refine (digest_i (I ++ t) _ s4.out (HKS.out.1.below L3.out) (HKS.out.2.below L3.out)).mono ?_
  rintro e w4 ⟨rfl, hb4⟩
  have L4 := Lib.hid (L3.out.trans (hb4.mono L3.out.size))
  clear hb4
  rw [← H4.out]
  go_wp2_with fail
  refine (digest_i (M ++ D) _ s5.out (HKS.out.1.below L4.out) (HKS.out.2.below L4.out)).mono ?_
  rintro e w5 ⟨rfl, hb5⟩
  have L5 := Lib.hid (L4.out.trans (hb5.mono L4.out.size))
  clear hb5
  go_wp2
  go_ret
  exact ⟨ret_str HE.out, L5.out⟩
theorem hmac_s (k t : ByteArray) (w : World) (hk : k.size ≤ 10000000) (ht : t.size ≤ 10000000) :
    Calls Tryd.prog 39 #[.string k, .string t] w fun e w' => e = .returned (.string (str (hmacL k.data.toList t.data.toList))) ∧ Below w.heap.size w w' := by
  obtain ⟨K, hKe⟩ : ∃ K, K = hkeyL k.data.toList := ⟨_, rfl⟩
  have hKl : K.length = 64 := by rw [hKe, hkeyL_len]
  obtain ⟨M, hM⟩ : ∃ M, M = str (xorL K 92) := ⟨_, rfl⟩
  have s1 : M.size = 64 := by rw [hM, str_size, xorL_len, hKl]
  obtain ⟨I, hI⟩ : ∃ I, I = str (xorL K 54) := ⟨_, rfl⟩
  have s2 : I.size = 64 := by rw [hI, str_size, xorL_len, hKl]
  obtain ⟨D, hD⟩ : ∃ D, D = str (digL (I ++ t).data.toList) := ⟨_, rfl⟩
  have s3 : D.size = 32 := by rw [hD, str_size, digL_len]
  have s4 : Hid ((I ++ t).size ≤ 100000000) := Lib.hid (by rw [ByteArray.size_append]; omega)
  have s5 : Hid ((M ++ D).size ≤ 100000000) := Lib.hid (by rw [ByteArray.size_append]; omega)
  have HE : Hid (str (digL (M ++ D).data.toList) = str (hmacL k.data.toList t.data.toList)) := Lib.hid (by
    unfold hmacL
    rw [hD, app_toList M, str_toList, app_toList I, hM, hI, str_toList, str_toList, hKe])
  have H1 := Lib.hid hKe
  have H2 := Lib.hid hM
  have H3 := Lib.hid hI
  have H4 := Lib.hid hD
  have H5 := Lib.hid hKl

  clear hKe hM hI hD hKl 
  go_enter Tryd.func39, Tryd.ntmps39
  go_wp2_with fail
  refine (hmacKey_s k _ (by omega)).mono ?_
  rintro e w1 ⟨rfl, hb1⟩
  have L1 := Lib.hid hb1
  clear hb1
  rw [← H1.out]
  go_wp2_with fail
  refine (mixed_s K 92 _ (by rw [H5.out]; omega)).mono ?_
  rintro e w2 ⟨rfl, hb2⟩
  have L2 := Lib.hid (L1.out.trans (hb2.mono L1.out.size))
  clear hb2
  rw [← H2.out]
  go_wp2_with fail
  refine (mixed_s K 54 _ (by rw [H5.out]; omega)).mono ?_
  rintro e w3 ⟨rfl, hb3⟩
  have L3 := Lib.hid (L2.out.trans (hb3.mono L2.out.size))
  clear hb3
  rw [← H3.out]
  go_wp2_with fail
  refine (digest_s (I ++ t) _ s4.out).mono ?_
  rintro e w4 ⟨rfl, hb4⟩
  have L4 := Lib.hid (L3.out.trans (hb4.mono L3.out.size))
  clear hb4
  rw [← H4.out]
  go_wp2_with fail
  refine (digest_s (M ++ D) _ s5.out).mono ?_
  rintro e w5 ⟨rfl, hb5⟩
  have L5 := Lib.hid (L4.out.trans (hb5.mono L4.out.size))
  clear hb5
  go_wp2
  go_ret
  exact ⟨ret_str HE.out, L5.out⟩
end Go.Proofs.YtmhekefjlepfpaaDoor

/- The walk of the law of codes: a code is right of its key and text, and of no text with one byte more. -/
import Derived.Test.YtmhekefjlepfpaaDoorD15
import Derived.Test.YtmhekefjlepfpaaDoorA1
import Derived.Test.YtmhekefjlepfpaaDoorB9
import Derived.Test.YtmhekefjlepfpaaDoorL8
import Derived.Test.YtmhekefjlepfpaaDoorL9
namespace Go.Proofs.YtmhekefjlepfpaaDoor
open Go.RowKit
set_option linter.unusedVariables false
set_option linter.unusedSimpArgs false
set_option maxRecDepth 100000 in
set_option maxHeartbeats 3200000 in
theorem law_FnMarks (v : Value) (n : Nat) (xs : List Int) (w : World) (hv : Rd w 1 v n (xs.map (Value.int .u8))) (hx : ∀ x ∈ xs, (Lit.int .u8 x).wf = true) (hK : HoldsK w) (hS : HoldsS w) :
    Calls Tryd.prog 20 #[v] w fun e w' => e = .returned (.bool true) ∧ Below w.heap.size w w' := by
  have HV := Lib.hid hv
  have HX := Lib.hid (u8_range hx)
  clear hv hx
  have HKS := Lib.hid (And.intro hK hS)
  clear hK hS
  by_cases hb : n ≤ 1048576
  case neg =>
    go_enter Tryd.func20, Tryd.ntmps20
    go_wp2_with fail
    refine (big_l v n _ _ HV.out).mono ?_
    rintro e w1 ⟨rfl, rfl⟩
    go_wp2
    go_ret
    exact ⟨rfl, Below.refl _ _⟩
  have HB : Hid (decide (1048576 < (n : Int)) = false) := Lib.hid (by simp; omega)
  have HN := Lib.hid hb
  clear hb
  go_enter Tryd.func20, Tryd.ntmps20
  go_wp2_with fail
  refine (big_l v n _ _ HV.out).mono ?_
  rintro e w1 ⟨rfl, rfl⟩
  rw [HB.out]
  go_wp2_with fail
  refine (drawHmacOk_s v n xs _ HV.out HX.out HN.out).mono ?_
  rintro e w1 ⟨k, t, gg, hk, ht, rfl, hb1⟩
  have HK := Lib.hid hk
  have HT := Lib.hid ht
  have hkl := hk.le
  have htl := ht.le
  have L1 := Lib.hid hb1
  have K1 := Lib.hid (And.intro (HKS.out.1.below hb1) (HKS.out.2.below hb1))
  obtain ⟨M, hM⟩ : ∃ M, M = str (hmacL k.data.toList t.data.toList) := ⟨_, rfl⟩
  obtain ⟨C, hC⟩ : ∃ C, C = str (cutL (hmacL k.data.toList t.data.toList) 8) := ⟨_, rfl⟩
  obtain ⟨T, hT⟩ : ∃ T, T = t ++ ByteArray.mk #[97] := ⟨_, rfl⟩
  have hcl : cutL (hmacL k.data.toList t.data.toList) 8 = (hmacL k.data.toList t.data.toList).take 8 := rfl
  have hms : M.size = 32 := by rw [hM, str_size, hmacL_len]
  have hcs : C.size = 8 := by rw [hC, hcl, str_size, List.length_take, hmacL_len]; rfl
  have hts : T.size ≤ 99 := by rw [hT, ByteArray.size_append]; show t.size + 1 ≤ 99; omega
  have hcut : M.extract 0 8 = C := by rw [hM, hC, hcl]; exact cut_str _ 8 (by rw [hmacL_len]; omega)
  have hne : hmacL k.data.toList T.data.toList ≠ hmacL k.data.toList t.data.toList := by
    obtain ⟨L, b, hL, hb, rfl⟩ := hk
    obtain ⟨p, m, hp, hm, rfl⟩ := ht
    have h := marks_ne hL hb hp hm
    rw [hT, str_toList, str_toList, show (str (byts (p ++ List.replicate m 7)) ++ ByteArray.mk #[97]).data.toList = byts (p ++ List.replicate m 7) ++ [97] by simp [str]]
    exact fun e => h e.symm
  have HOK1 : Hid (((str (hmacL k.data.toList t.data.toList)).toList == M.toList) = true) := Lib.hid (by rw [← hM]; exact beq_self_eq_true _)
  have HOK2 : Hid (((str (hmacL k.data.toList T.data.toList)).toList == M.toList) = false) := Lib.hid (by
    rw [ByteArray.toList_eq, ByteArray.toList_eq, hM, str_toList, str_toList]
    exact beq_eq_false_iff_ne.2 hne)
  have HSM : Hid (sameB M M = true) := Lib.hid (by unfold sameB; exact beq_self_eq_true _)
  have HSN : Hid (sameB M C = false) := Lib.hid (by
    unfold sameB
    refine beq_eq_false_iff_ne.2 (fun e => ?_)
    have := congrArg List.length e
    simp at this
    omega)
  have HM := Lib.hid hM
  have HC := Lib.hid hC
  have HTT := Lib.hid hT
  have HCU := Lib.hid hcut
  have HKL : Hid ((str (hkeyL k.data.toList)).size = 64) := Lib.hid (by rw [str_size, hkeyL_len])
  have HMS := Lib.hid hms
  have HCS := Lib.hid hcs
  clear hk ht hb1 HKS hM hC hT hcl hcut hne hms hcs
  go_wp2_with fail
  refine (hmac_i k t _ (by omega) (by omega) K1.out.1 K1.out.2).mono ?_
  rw [← HM.out]
  rintro e w2 ⟨rfl, hb⟩
  have L2 := Lib.hid (L1.out.trans (hb.mono L1.out.size))
  have K2 := Lib.hid (And.intro (K1.out.1.below hb) (K1.out.2.below hb))
  clear hb L1 K1
  go_wp2_with fail
  refine (cutMark_i k t 8 _ (by omega) (by omega) K2.out.1 K2.out.2).mono ?_
  rw [← HC.out]
  rintro e w3 ⟨rfl, hb⟩
  have L3 := Lib.hid (L2.out.trans (hb.mono L2.out.size))
  have K3 := Lib.hid (And.intro (K2.out.1.below hb) (K2.out.2.below hb))
  clear hb L2 K2
  have m32 : (M.size : Int) = 32 := by rw [HMS.out]; rfl
  go_wp2_with fail
  refine (hmacOk_i k t M _ (by omega) (by omega) K3.out.1 K3.out.2).mono ?_
  rw [HOK1.out]
  rintro e w4 ⟨rfl, hb⟩
  have L4 := Lib.hid (L3.out.trans (hb.mono L3.out.size))
  have K4 := Lib.hid (And.intro (K3.out.1.below hb) (K3.out.2.below hb))
  clear hb L3 K3 m32
  have hsum : ¬ (9223372036854775807 < t.size + (ByteArray.mk #[97]).size) := by show ¬ (9223372036854775807 < t.size + 1); omega
  have htt : t ++ ByteArray.mk #[97] = T := HTT.out.symm
  go_wp2_with fail
  refine (hmacOk_i k T M _ (by omega) (by omega) K4.out.1 K4.out.2).mono ?_
  rw [HOK2.out]
  rintro e w5 ⟨rfl, hb⟩
  have L5 := Lib.hid (L4.out.trans (hb.mono L4.out.size))
  have K5 := Lib.hid (And.intro (K4.out.1.below hb) (K4.out.2.below hb))
  clear hb L4 K4 hsum htt
  have c8 : (C.size : Int) = 8 := by rw [HCS.out]; rfl
  have m8 : (8 : Int) ≤ (M.size : Int) := by rw [HMS.out]; omega
  have mc : M.extract 0 8 = C := HCU.out
  go_wp2_with fail
  refine (hmac_s k t _ (by omega) (by omega)).mono ?_
  rw [← HM.out]
  rintro e w6 ⟨rfl, hb⟩
  have L6 := Lib.hid (L5.out.trans (hb.mono L5.out.size))
  have K6 := Lib.hid (And.intro (K5.out.1.below hb) (K5.out.2.below hb))
  clear hb L5 K5 c8 m8 mc
  go_wp2_with fail
  refine (sameBytes_i M M _ (by rw [HMS.out]; omega) (by rw [HMS.out]; omega)).mono ?_
  rw [HSM.out]
  rintro e w7 ⟨rfl, hb⟩
  have L7 := Lib.hid (L6.out.trans (hb.mono L6.out.size))
  have K7 := Lib.hid (And.intro (K6.out.1.below hb) (K6.out.2.below hb))
  clear hb L6 K6
  go_wp2_with fail
  refine (sameBytes_i M C _ (by rw [HMS.out]; omega) (by rw [HCS.out]; omega)).mono ?_
  rw [HSN.out]
  rintro e w8 ⟨rfl, hb⟩
  have L8 := Lib.hid (L7.out.trans (hb.mono L7.out.size))
  have K8 := Lib.hid (And.intro (K7.out.1.below hb) (K7.out.2.below hb))
  clear hb L7 K7
  go_wp2_with fail
  refine (hmacKey_i k _ (by omega) K8.out.1 K8.out.2).mono ?_
  obtain ⟨U, hU⟩ : ∃ U, U = str (hkeyL k.data.toList) := ⟨_, rfl⟩
  rw [← hU]
  rintro e w9 ⟨rfl, hb⟩
  have u64 : (U.size : Int) = 64 := by rw [hU, HKL.out]; rfl
  have L9 := Lib.hid (L8.out.trans (hb.mono L8.out.size))
  clear hb L8 K8 hU
  go_wp2
  go_ret
  exact ⟨rfl, L9.out⟩
end Go.Proofs.YtmhekefjlepfpaaDoor

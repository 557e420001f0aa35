/- The walk of the law on the known values of SHA-256 and HMAC. -/
import Derived.Test.YtmhekefjlepfpaaDoorProg
import Derived.Test.YtmhekefjlepfpaaDoorK
import Derived.Test.YtmhekefjlepfpaaDoorK2
import Derived.Test.YtmhekefjlepfpaaDoorK4
import Derived.Test.YtmhekefjlepfpaaDoorA3
import Derived.Test.YtmhekefjlepfpaaDoorB4
import Derived.Test.YtmhekefjlepfpaaDoorB8
import Derived.Test.YtmhekefjlepfpaaDoorB9
namespace Go.Proofs.YtmhekefjlepfpaaDoor
open Go.RowKit
set_option linter.unusedVariables false
set_option linter.unusedSimpArgs false

theorem big_l (v : Value) (n : Nat) (xs : List Value) (w : World) (hv : Rd w 1 v n xs) : Calls Tryd.prog 55 #[v] w fun e w' => e = .returned (.bool (decide (1048576 < (n : Int)))) ∧ w = w' := by
  obtain ⟨A, cap, rfl, hm⟩ := hv.shape
  clear hv
  go_enter Tryd.func55, Tryd.ntmps55
  go_wp2
  go_ret
  exact ⟨rfl, rfl⟩
set_option maxRecDepth 100000 in
theorem fix1 : hexL (digL []) = [101, 51, 98, 48, 99, 52, 52, 50, 57, 56, 102, 99, 49, 99, 49, 52, 57, 97, 102, 98, 102, 52, 99, 56, 57, 57, 54, 102, 98, 57, 50, 52, 50, 55, 97, 101, 52, 49, 101, 52, 54, 52, 57, 98, 57, 51, 52, 99, 97, 52, 57, 53, 57, 57, 49, 98, 55, 56, 53, 50, 98, 56, 53, 53] := by decide +kernel
set_option maxRecDepth 100000 in
theorem fix2 : hexL (digL [97, 98, 99]) = [98, 97, 55, 56, 49, 54, 98, 102, 56, 102, 48, 49, 99, 102, 101, 97, 52, 49, 52, 49, 52, 48, 100, 101, 53, 100, 97, 101, 50, 50, 50, 51, 98, 48, 48, 51, 54, 49, 97, 51, 57, 54, 49, 55, 55, 97, 57, 99, 98, 52, 49, 48, 102, 102, 54, 49, 102, 50, 48, 48, 49, 53, 97, 100] := by decide +kernel
set_option maxRecDepth 100000 in
theorem fix3 : hexL (hmacL [74, 101, 102, 101] [119, 104, 97, 116, 32, 100, 111, 32, 121, 97, 32, 119, 97, 110, 116, 32, 102, 111, 114, 32, 110, 111, 116, 104, 105, 110, 103, 63]) = [53, 98, 100, 99, 99, 49, 52, 54, 98, 102, 54, 48, 55, 53, 52, 101, 54, 97, 48, 52, 50, 52, 50, 54, 48, 56, 57, 53, 55, 53, 99, 55, 53, 97, 48, 48, 51, 102, 48, 56, 57, 100, 50, 55, 51, 57, 56, 51, 57, 100, 101, 99, 53, 56, 98, 57, 54, 52, 101, 99, 51, 56, 52, 51] := by decide +kernel
theorem dh1 (w : World) (hK : HoldsK w) (hS : HoldsS w) : Calls Tryd.prog 38 #[.string ⟨#[]⟩] w fun e w' => e = .returned (.string ⟨#[101, 51, 98, 48, 99, 52, 52, 50, 57, 56, 102, 99, 49, 99, 49, 52, 57, 97, 102, 98, 102, 52, 99, 56, 57, 57, 54, 102, 98, 57, 50, 52, 50, 55, 97, 101, 52, 49, 101, 52, 54, 52, 57, 98, 57, 51, 52, 99, 97, 52, 57, 53, 57, 57, 49, 98, 55, 56, 53, 50, 98, 56, 53, 53]⟩) ∧ Below w.heap.size w w' := by
  have h := digestHex_i ⟨#[]⟩ w (by decide) hK hS
  rw [show (⟨#[]⟩ : ByteArray).data.toList = [] from rfl, fix1] at h
  exact h
theorem dh2 (w : World) (hK : HoldsK w) (hS : HoldsS w) : Calls Tryd.prog 38 #[.string ⟨#[97, 98, 99]⟩] w fun e w' => e = .returned (.string ⟨#[98, 97, 55, 56, 49, 54, 98, 102, 56, 102, 48, 49, 99, 102, 101, 97, 52, 49, 52, 49, 52, 48, 100, 101, 53, 100, 97, 101, 50, 50, 50, 51, 98, 48, 48, 51, 54, 49, 97, 51, 57, 54, 49, 55, 55, 97, 57, 99, 98, 52, 49, 48, 102, 102, 54, 49, 102, 50, 48, 48, 49, 53, 97, 100]⟩) ∧ Below w.heap.size w w' := by
  have h := digestHex_i ⟨#[97, 98, 99]⟩ w (by decide) hK hS
  rw [show (⟨#[97, 98, 99]⟩ : ByteArray).data.toList = [97, 98, 99] from rfl, fix2] at h
  exact h
theorem law_FnFixed (v : Value) (n : Nat) (xs : List Int) (w : World) (hv : Rd w 1 v n (xs.map (Value.int .u8))) (hx : ∀ x ∈ xs, (Lit.int .u8 x).wf = true) (hK : HoldsK w) (hS : HoldsS w) :
    Calls Tryd.prog 18 #[v] w fun e w' => e = .returned (.bool true) ∧ Below w.heap.size w w' := by
  have HV := Lib.hid hv
  clear hv hx
  have HKS := Lib.hid (And.intro hK hS)
  clear hK hS
  by_cases hb : n ≤ 1048576
  case neg =>
    go_enter Tryd.func18, Tryd.ntmps18
    go_wp2_with fail
    refine (big_l v n _ _ HV.out).mono ?_
    rintro e w1 ⟨rfl, rfl⟩
    go_wp2
    go_ret
    exact ⟨rfl, Below.refl _ _⟩
  have hb2 : decide (1048576 < (n : Int)) = false := by simp; omega
  have HB := Lib.hid hb2
  clear hb2
  obtain ⟨M, hM⟩ : ∃ M, M = str (hmacL [74, 101, 102, 101] [119, 104, 97, 116, 32, 100, 111, 32, 121, 97, 32, 119, 97, 110, 116, 32, 102, 111, 114, 32, 110, 111, 116, 104, 105, 110, 103, 63]) := ⟨_, rfl⟩
  have HM := Lib.hid hM
  have s1 : Hid (M.size ≤ 20000) := Lib.hid (by rw [hM, str_size, hmacL_len]; omega)
  have HX : Hid (str (hexL M.data.toList) = ⟨#[53, 98, 100, 99, 99, 49, 52, 54, 98, 102, 54, 48, 55, 53, 52, 101, 54, 97, 48, 52, 50, 52, 50, 54, 48, 56, 57, 53, 55, 53, 99, 55, 53, 97, 48, 48, 51, 102, 48, 56, 57, 100, 50, 55, 51, 57, 56, 51, 57, 100, 101, 99, 53, 56, 98, 57, 54, 52, 101, 99, 51, 56, 52, 51]⟩) := Lib.hid (by rw [hM, str_toList, fix3]; rfl)
  clear hM
  go_enter Tryd.func18, Tryd.ntmps18
  go_wp2_with fail
  refine (big_l v n _ _ HV.out).mono ?_
  rintro e w1 ⟨rfl, rfl⟩
  rw [HB.out]
  go_wp2_with fail
  refine (hmac_i ⟨#[74, 101, 102, 101]⟩ ⟨#[119, 104, 97, 116, 32, 100, 111, 32, 121, 97, 32, 119, 97, 110, 116, 32, 102, 111, 114, 32, 110, 111, 116, 104, 105, 110, 103, 63]⟩ _ (by decide) (by decide) HKS.out.1 HKS.out.2).mono ?_
  rintro e w1 ⟨rfl, hb1⟩
  have L1 := Lib.hid hb1
  clear hb1
  rw [← HM.out]
  go_wp2_with fail
  refine (hex_i M _ s1.out).mono ?_
  rintro e w2 ⟨rfl, hb2⟩
  have L2 := Lib.hid (L1.out.trans (hb2.mono L1.out.size))
  clear hb2
  rw [HX.out]
  go_wp2_with fail
  refine (dh1 _ (HKS.out.1.below L2.out) (HKS.out.2.below L2.out)).mono ?_
  rintro e w3 ⟨rfl, hb3⟩
  have L3 := Lib.hid (L2.out.trans (hb3.mono L2.out.size))
  clear hb3
  go_wp2_with fail
  refine (dh2 _ (HKS.out.1.below L3.out) (HKS.out.2.below L3.out)).mono ?_
  rintro e w4 ⟨rfl, hb4⟩
  have L4 := Lib.hid (L3.out.trans (hb4.mono L3.out.size))
  clear hb4
  go_wp2_with fail
  refine (hmac_i ⟨#[74, 101, 102, 101]⟩ ⟨#[119, 104, 97, 116, 32, 100, 111, 32, 121, 97, 32, 119, 97, 110, 116, 32, 102, 111, 114, 32, 110, 111, 116, 104, 105, 110, 103, 63]⟩ _ (by decide) (by decide) (HKS.out.1.below L4.out) (HKS.out.2.below L4.out)).mono ?_
  rintro e w5 ⟨rfl, hb5⟩
  have L5 := Lib.hid (L4.out.trans (hb5.mono L4.out.size))
  clear hb5
  rw [← HM.out]
  go_wp2_with fail
  refine (hmacOk_i ⟨#[74, 101, 102, 101]⟩ ⟨#[119, 104, 97, 116, 32, 100, 111, 32, 121, 97, 32, 119, 97, 110, 116, 32, 102, 111, 114, 32, 110, 111, 116, 104, 105, 110, 103, 63]⟩ M _ (by decide) (by decide) (HKS.out.1.below L5.out) (HKS.out.2.below L5.out)).mono ?_
  rintro e w6 ⟨rfl, hb6⟩
  rw [← HM.out]
  go_wp2
  go_ret
  exact ⟨ret_bool (by simp), L5.out.trans (hb6.mono L5.out.size)⟩
end Go.Proofs.YtmhekefjlepfpaaDoor

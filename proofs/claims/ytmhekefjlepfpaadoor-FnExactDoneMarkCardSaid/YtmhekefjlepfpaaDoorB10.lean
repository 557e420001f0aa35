/- The walks: the codes of two nonces and of an address. -/
import Derived.Test.YtmhekefjlepfpaaDoorProg
import Derived.Test.YtmhekefjlepfpaaDoorK
import Derived.Test.YtmhekefjlepfpaaDoorK2
import Derived.Test.YtmhekefjlepfpaaDoorK3
import Derived.Test.YtmhekefjlepfpaaDoorK4
import Derived.Test.YtmhekefjlepfpaaDoorN
import Derived.Test.YtmhekefjlepfpaaDoorS
import Derived.Test.YtmhekefjlepfpaaDoorS2
import Derived.Test.YtmhekefjlepfpaaDoorA1
import Derived.Test.YtmhekefjlepfpaaDoorA2
import Derived.Test.YtmhekefjlepfpaaDoorB1
import Derived.Test.YtmhekefjlepfpaaDoorB4
import Derived.Test.YtmhekefjlepfpaaDoorB6
import Derived.Test.YtmhekefjlepfpaaDoorB7
import Derived.Test.YtmhekefjlepfpaaDoorB8
import Derived.Test.YtmhekefjlepfpaaDoorB9
import Derived.Outline
namespace Go.Proofs.YtmhekefjlepfpaaDoor
open Go.RowKit
set_option linter.unusedVariables false
set_option linter.unusedSimpArgs false

theorem keyOk_size {s : ByteArray} (h : keyOkB s = true) : s.size = 8 := by unfold keyOkB at h; simpa using h
theorem numText_i64 {n wd : Int} (h : numTextB n wd = true) : n ≤ 9223372036854775807 := by
  obtain ⟨N, W, rfl, rfl, h1, h6, hl⟩ := numTextB_yes h
  have := lt_256 hl h6
  omega
theorem numStr_size {n wd : Int} {W : Nat} (h : numTextB n wd = true) (e : wd = W) : (str (numTextL n wd)).size = W := by
  have := numTextL_len h
  rw [str_size]
  omega
theorem isE_no2 {l : List UInt8} (h : l ≠ []) : (str l).toList.isEmpty = false := by rw [ByteArray.toList_eq]; exact isE_no h
theorem joinMark_i_yes (a b : ByteArray) (n m : Int) (w : World) (h : joinOk a b n m = true) (hK : HoldsK w) (hS : HoldsS w) :
    Calls Tryd.prog 48 #[.string a, .string b, .int .i64 n, .int .i64 m] w fun e w' => e = .returned (.string (str (joinL a b n m))) ∧ Below w.heap.size w w' := by
  have hj := h
  unfold joinOk at h
  simp only [Bool.and_eq_true] at h
  obtain ⟨⟨⟨h1, h2⟩, h3⟩, h4⟩ := h
  have z1 := keyOk_size h1
  have z2 := keyOk_size h2
  obtain ⟨X, hX⟩ : ∃ X, X = str (numTextL n 4) := ⟨_, rfl⟩
  obtain ⟨Y, hY⟩ : ∃ Y, Y = str (numTextL m 4) := ⟨_, rfl⟩
  have sX : X.size = 4 := by rw [hX]; exact numStr_size h3 rfl
  have sY : Y.size = 4 := by rw [hY]; exact numStr_size h4 rfl
  have eX : X.toList.isEmpty = false := by rw [hX]; exact isE_no2 (numText_ne h3)
  have eY : Y.toList.isEmpty = false := by rw [hY]; exact isE_no2 (numText_ne h4)
  have HE : Hid (str (hmacL (a ++ b).data.toList (X ++ Y).data.toList) = str (joinL a b n m)) := Lib.hid (by
    unfold joinL
    rw [if_pos hj, app_toList, app_toList, hX, hY, str_toList, str_toList])
  have S1 : Hid ((a ++ b).size ≤ 10000000) := Lib.hid (by rw [ByteArray.size_append]; omega)
  have S2 : Hid ((X ++ Y).size ≤ 10000000) := Lib.hid (by rw [ByteArray.size_append]; omega)
  have i3 := numText_i64 h3
  have i4 := numText_i64 h4
  have HX := Lib.hid hX
  have HY := Lib.hid hY
  have n3 : Hid (0 ≤ n ∧ n ≤ 4294967295) := Lib.hid (by rw [numTextB_4] at h3; simpa using h3)
  have n4 : Hid (0 ≤ m ∧ m ≤ 4294967295) := Lib.hid (by rw [numTextB_4] at h4; simpa using h4)
  clear hX hY hj h3 h4
  have HKS := Lib.hid (And.intro hK hS)
  clear hK hS
  go_enter Tryd.func48, Tryd.ntmps48
  go_wp2_with fail
  refine (keyOk_i a _).mono ?_
  rintro e w1 ⟨rfl, rfl⟩
  go_wp2_with fail
  refine (keyOk_i b _).mono ?_
  rintro e w1 ⟨rfl, rfl⟩
  go_wp2_with fail
  refine (within_i_yes n 0 4294967295 _ n3.out).mono ?_
  rintro e w1 ⟨rfl, rfl⟩
  go_wp2_with fail
  refine (within_i_yes m 0 4294967295 _ n4.out).mono ?_
  rintro e w1 ⟨rfl, rfl⟩
  go_wp2_with fail
  refine (numText_i n 4 _ i3).mono ?_
  rintro e w1 ⟨rfl, hb1⟩
  rw [← HX.out]
  go_wp2_with fail
  refine (numText_i m 4 _ i4).mono ?_
  rintro e w2 ⟨rfl, hb2⟩
  rw [← HY.out]
  have L2 := Lib.hid (hb1.trans (hb2.mono hb1.size))
  go_wp2_with fail
  refine (hmac_i (a ++ b) (X ++ Y) _ S1.out S2.out (HKS.out.1.below L2.out) (HKS.out.2.below L2.out)).mono ?_
  rintro e w3 ⟨rfl, hb3⟩
  go_wp2
  go_ret
  exact ⟨ret_str HE.out, L2.out.trans (hb3.mono L2.out.size)⟩
theorem joinMark_i_no (a b : ByteArray) (n m : Int) (w : World) (h : joinOk a b n m = false) (hn : n ≤ 9223372036854775807) (hm : m ≤ 9223372036854775807) :
    Calls Tryd.prog 48 #[.string a, .string b, .int .i64 n, .int .i64 m] w fun e w' => e = .returned (.string ⟨#[]⟩) ∧ Below w.heap.size w w' := by
  unfold joinOk at h
  cases h1 : keyOkB a
  · clear h
    go_enter Tryd.func48, Tryd.ntmps48
    go_wp2_with fail
    refine (keyOk_i a _).mono ?_
    rintro e w1 ⟨rfl, rfl⟩
    go_wp2
    go_ret
    exact ⟨rfl, Below.refl _ _⟩
  cases h2 : keyOkB b
  · clear h
    go_enter Tryd.func48, Tryd.ntmps48
    go_wp2_with fail
    refine (keyOk_i a _).mono ?_
    rintro e w1 ⟨rfl, rfl⟩
    go_wp2_with fail
    refine (keyOk_i b _).mono ?_
    rintro e w1 ⟨rfl, rfl⟩
    go_wp2
    go_ret
    exact ⟨rfl, Below.refl _ _⟩
  cases h3 : numTextB n 4
  · have H3 : Hid (¬ (0 ≤ n ∧ n ≤ 4294967295)) := Lib.hid (by rw [numTextB_4, ← Bool.decide_and, decide_eq_false_iff_not] at h3; exact h3)
    clear h h3
    go_enter Tryd.func48, Tryd.ntmps48
    go_wp2_with fail
    refine (keyOk_i a _).mono ?_
    rintro e w1 ⟨rfl, rfl⟩
    go_wp2_with fail
    refine (keyOk_i b _).mono ?_
    rintro e w1 ⟨rfl, rfl⟩
    go_wp2_with fail
    refine (within_i_no n 0 4294967295 _ H3.out).mono ?_
    rintro e w1 ⟨rfl, rfl⟩
    go_wp2
    go_ret
    exact ⟨rfl, Below.refl _ _⟩
  have H3 : Hid (0 ≤ n ∧ n ≤ 4294967295) := Lib.hid (by rw [numTextB_4] at h3; simpa using h3)
  have H4 : Hid (¬ (0 ≤ m ∧ m ≤ 4294967295)) := Lib.hid (by
    rw [h1, h2, h3] at h
    have h4 : numTextB m 4 = false := by simpa using h
    rw [numTextB_4, ← Bool.decide_and, decide_eq_false_iff_not] at h4; exact h4)
  clear h h3
  go_enter Tryd.func48, Tryd.ntmps48
  go_wp2_with fail
  refine (keyOk_i a _).mono ?_
  rintro e w1 ⟨rfl, rfl⟩
  go_wp2_with fail
  refine (keyOk_i b _).mono ?_
  rintro e w1 ⟨rfl, rfl⟩
  go_wp2_with fail
  refine (within_i_yes n 0 4294967295 _ H3.out).mono ?_
  rintro e w1 ⟨rfl, rfl⟩
  go_wp2_with fail
  refine (within_i_no m 0 4294967295 _ H4.out).mono ?_
  rintro e w1 ⟨rfl, rfl⟩
  go_wp2
  go_ret
  exact ⟨rfl, Below.refl _ _⟩
theorem joinMark_i (a b : ByteArray) (n m : Int) (w : World) (hn : n ≤ 9223372036854775807) (hm : m ≤ 9223372036854775807) (hK : HoldsK w) (hS : HoldsS w) :
    Calls Tryd.prog 48 #[.string a, .string b, .int .i64 n, .int .i64 m] w fun e w' => e = .returned (.string (str (joinL a b n m))) ∧ Below w.heap.size w w' := by
  cases h : joinOk a b n m
  · rw [show joinL a b n m = [] by unfold joinL; rw [h]; rfl]
    exact joinMark_i_no a b n m w h hn hm
  · exact joinMark_i_yes a b n m w h hK hS
theorem backMark_i (a b : ByteArray) (n m : Int) (w : World) (hn : n ≤ 9223372036854775807) (hm : m ≤ 9223372036854775807) (hK : HoldsK w) (hS : HoldsS w) :
    Calls Tryd.prog 52 #[.string a, .string b, .int .i64 n, .int .i64 m] w fun e w' => e = .returned (.string (str ((joinL a b n m).take 8))) ∧ Below w.heap.size w w' := by
  have HKS := Lib.hid (And.intro hK hS)
  clear hK hS
  obtain ⟨D, hD⟩ : ∃ D, D = str (joinL a b n m) := ⟨_, rfl⟩
  have HD := Lib.hid hD
  cases h : joinOk a b n m
  · have hE : D = ⟨#[]⟩ := by rw [hD, show joinL a b n m = [] by unfold joinL; rw [h]; rfl]; rfl
    rw [show joinL a b n m = [] by unfold joinL; rw [h]; rfl]
    have HE := Lib.hid hE
    have s1 : D.size = 0 := by rw [hE]; rfl
    clear hD hE
    go_enter Tryd.func52, Tryd.ntmps52
    go_wp2_with fail
    refine (joinMark_i a b n m _ hn hm HKS.out.1 HKS.out.2).mono ?_
    rintro e w1 ⟨rfl, hb1⟩
    rw [← HD.out, HE.out]
    go_wp2
    go_ret
    exact ⟨rfl, hb1⟩
  · have hl := joinL_len h
    have s1 : D.size = 32 := by rw [hD, str_size, hl]
    have HE : Hid (D.extract 0 8 = str ((joinL a b n m).take 8)) := Lib.hid (by rw [hD, cut_str _ _ (by omega)])
    clear hD hl
    go_enter Tryd.func52, Tryd.ntmps52
    go_wp2_with fail
    refine (joinMark_i a b n m _ hn hm HKS.out.1 HKS.out.2).mono ?_
    rintro e w1 ⟨rfl, hb1⟩
    rw [← HD.out]
    go_wp2
    go_ret
    exact ⟨ret_str HE.out, hb1⟩
theorem doneMark_i (a b : ByteArray) (n m : Int) (w : World) (hn : n ≤ 9223372036854775807) (hm : m ≤ 9223372036854775807) (hK : HoldsK w) (hS : HoldsS w) :
    Calls Tryd.prog 54 #[.string a, .string b, .int .i64 n, .int .i64 m] w fun e w' => e = .returned (.string (str ((joinL a b n m).take 20))) ∧ Below w.heap.size w w' := by
  have HKS := Lib.hid (And.intro hK hS)
  clear hK hS
  obtain ⟨D, hD⟩ : ∃ D, D = str (joinL a b n m) := ⟨_, rfl⟩
  have HD := Lib.hid hD
  cases h : joinOk a b n m
  · have hE : D = ⟨#[]⟩ := by rw [hD, show joinL a b n m = [] by unfold joinL; rw [h]; rfl]; rfl
    rw [show joinL a b n m = [] by unfold joinL; rw [h]; rfl]
    have HE := Lib.hid hE
    have s1 : D.size = 0 := by rw [hE]; rfl
    clear hD hE
    go_enter Tryd.func54, Tryd.ntmps54
    go_wp2_with fail
    refine (joinMark_i a b n m _ hn hm HKS.out.1 HKS.out.2).mono ?_
    rintro e w1 ⟨rfl, hb1⟩
    rw [← HD.out, HE.out]
    go_wp2
    go_ret
    exact ⟨rfl, hb1⟩
  · have hl := joinL_len h
    have s1 : D.size = 32 := by rw [hD, str_size, hl]
    have HE : Hid (D.extract 0 20 = str ((joinL a b n m).take 20)) := Lib.hid (by rw [hD, cut_str _ _ (by omega)])
    clear hD hl
    go_enter Tryd.func54, Tryd.ntmps54
    go_wp2_with fail
    refine (joinMark_i a b n m _ hn hm HKS.out.1 HKS.out.2).mono ?_
    rintro e w1 ⟨rfl, hb1⟩
    rw [← HD.out]
    go_wp2
    go_ret
    exact ⟨ret_str HE.out, hb1⟩
theorem joinMark_s_yes (a b : ByteArray) (n m : Int) (w : World) (h : joinOk a b n m = true) :
    Calls Tryd.prog 47 #[.string a, .string b, .int .i64 n, .int .i64 m] w fun e w' => e = .returned (.string (str (joinL a b n m))) ∧ Below w.heap.size w w' := by
  have hj := h
  unfold joinOk at h
  simp only [Bool.and_eq_true] at h
  obtain ⟨⟨⟨h1, h2⟩, h3⟩, h4⟩ := h
  have z1 := keyOk_size h1
  have z2 := keyOk_size h2
  obtain ⟨X, hX⟩ : ∃ X, X = str (numTextL n 4) := ⟨_, rfl⟩
  obtain ⟨Y, hY⟩ : ∃ Y, Y = str (numTextL m 4) := ⟨_, rfl⟩
  have sX : X.size = 4 := by rw [hX]; exact numStr_size h3 rfl
  have sY : Y.size = 4 := by rw [hY]; exact numStr_size h4 rfl
  have eX : X.toList.isEmpty = false := by rw [hX]; exact isE_no2 (numText_ne h3)
  have eY : Y.toList.isEmpty = false := by rw [hY]; exact isE_no2 (numText_ne h4)
  have HE : Hid (str (hmacL (a ++ b).data.toList (X ++ Y).data.toList) = str (joinL a b n m)) := Lib.hid (by
    unfold joinL
    rw [if_pos hj, app_toList, app_toList, hX, hY, str_toList, str_toList])
  have S1 : Hid ((a ++ b).size ≤ 10000000) := Lib.hid (by rw [ByteArray.size_append]; omega)
  have S2 : Hid ((X ++ Y).size ≤ 10000000) := Lib.hid (by rw [ByteArray.size_append]; omega)
  have i3 := numText_i64 h3
  have i4 := numText_i64 h4
  have HX := Lib.hid hX
  have HY := Lib.hid hY
  have n3 : Hid (0 ≤ n ∧ n ≤ 4294967295) := Lib.hid (by rw [numTextB_4] at h3; simpa using h3)
  have n4 : Hid (0 ≤ m ∧ m ≤ 4294967295) := Lib.hid (by rw [numTextB_4] at h4; simpa using h4)
  clear hX hY hj h3 h4
  go_enter Tryd.func47, Tryd.ntmps47
  go_wp2_with fail
  refine (keyOk_s a _).mono ?_
  rintro e w1 ⟨rfl, rfl⟩
  go_wp2_with fail
  refine (keyOk_s b _).mono ?_
  rintro e w1 ⟨rfl, rfl⟩
  go_wp2_with fail
  refine (numText_s n 4 _ i3).mono ?_
  rintro e w1 ⟨rfl, hb1⟩
  rw [← HX.out]
  go_wp2_with fail
  refine (numText_s m 4 _ i4).mono ?_
  rintro e w2 ⟨rfl, hb2⟩
  rw [← HY.out]
  have L2 := Lib.hid (hb1.trans (hb2.mono hb1.size))
  go_wp2_with fail
  refine (numText_s n 4 _ i3).mono ?_
  rintro e w3 ⟨rfl, hb3⟩
  rw [← HX.out]
  have L3 := Lib.hid (L2.out.trans (hb3.mono L2.out.size))
  go_wp2_with fail
  refine (numText_s m 4 _ i4).mono ?_
  rintro e w4 ⟨rfl, hb4⟩
  rw [← HY.out]
  have L4 := Lib.hid (L3.out.trans (hb4.mono L3.out.size))
  go_wp2_with fail
  refine (hmac_s (a ++ b) (X ++ Y) _ S1.out S2.out).mono ?_
  rintro e w5 ⟨rfl, hb5⟩
  go_wp2
  go_ret
  exact ⟨ret_str HE.out, L4.out.trans (hb5.mono L4.out.size)⟩
theorem joinMark_s_no (a b : ByteArray) (n m : Int) (w : World) (h : joinOk a b n m = false) (hn : n ≤ 9223372036854775807) (hm : m ≤ 9223372036854775807) :
    Calls Tryd.prog 47 #[.string a, .string b, .int .i64 n, .int .i64 m] w fun e w' => e = .returned (.string ⟨#[]⟩) ∧ Below w.heap.size w w' := by
  unfold joinOk at h
  cases h1 : keyOkB a
  · clear h
    go_enter Tryd.func47, Tryd.ntmps47
    go_wp2_with fail
    refine (keyOk_s a _).mono ?_
    rintro e w1 ⟨rfl, rfl⟩
    go_wp2
    go_ret
    exact ⟨rfl, Below.refl _ _⟩
  cases h2 : keyOkB b
  · clear h
    go_enter Tryd.func47, Tryd.ntmps47
    go_wp2_with fail
    refine (keyOk_s a _).mono ?_
    rintro e w1 ⟨rfl, rfl⟩
    go_wp2_with fail
    refine (keyOk_s b _).mono ?_
    rintro e w1 ⟨rfl, rfl⟩
    go_wp2
    go_ret
    exact ⟨rfl, Below.refl _ _⟩
  cases h3 : numTextB n 4
  · have H3 := Lib.hid h3
    clear h h3
    go_enter Tryd.func47, Tryd.ntmps47
    go_wp2_with fail
    refine (keyOk_s a _).mono ?_
    rintro e w1 ⟨rfl, rfl⟩
    go_wp2_with fail
    refine (keyOk_s b _).mono ?_
    rintro e w1 ⟨rfl, rfl⟩
    go_wp2_with fail
    refine (numText_s_no n 4 _ H3.out hn).mono ?_
    rintro e w1 ⟨rfl, rfl⟩
    go_wp2
    go_ret
    exact ⟨rfl, Below.refl _ _⟩
  have H4 : Hid (numTextB m 4 = false) := Lib.hid (by
    rw [h1, h2, h3] at h
    simpa using h)
  obtain ⟨X, hX⟩ : ∃ X, X = str (numTextL n 4) := ⟨_, rfl⟩
  have eX : X.toList.isEmpty = false := by rw [hX]; exact isE_no2 (numText_ne h3)
  have HX := Lib.hid hX
  clear h h3 hX
  go_enter Tryd.func47, Tryd.ntmps47
  go_wp2_with fail
  refine (keyOk_s a _).mono ?_
  rintro e w1 ⟨rfl, rfl⟩
  go_wp2_with fail
  refine (keyOk_s b _).mono ?_
  rintro e w1 ⟨rfl, rfl⟩
  go_wp2_with fail
  refine (numText_s n 4 _ hn).mono ?_
  rintro e w2 ⟨rfl, hb2⟩
  rw [← HX.out]
  go_wp2_with fail
  refine (numText_s_no m 4 _ H4.out hm).mono ?_
  rintro e w1 ⟨rfl, rfl⟩
  go_wp2
  go_ret
  exact ⟨rfl, hb2⟩
theorem joinMark_s (a b : ByteArray) (n m : Int) (w : World) (hn : n ≤ 9223372036854775807) (hm : m ≤ 9223372036854775807) :
    Calls Tryd.prog 47 #[.string a, .string b, .int .i64 n, .int .i64 m] w fun e w' => e = .returned (.string (str (joinL a b n m))) ∧ Below w.heap.size w w' := by
  cases h : joinOk a b n m
  · rw [show joinL a b n m = [] by unfold joinL; rw [h]; rfl]
    exact joinMark_s_no a b n m w h hn hm
  · exact joinMark_s_yes a b n m w h
theorem backMark_s (a b : ByteArray) (n m : Int) (w : World) (hn : n ≤ 9223372036854775807) (hm : m ≤ 9223372036854775807) :
    Calls Tryd.prog 51 #[.string a, .string b, .int .i64 n, .int .i64 m] w fun e w' => e = .returned (.string (str ((joinL a b n m).take 8))) ∧ Below w.heap.size w w' := by
  obtain ⟨D, hD⟩ : ∃ D, D = str (joinL a b n m) := ⟨_, rfl⟩
  have HD := Lib.hid hD
  cases h : joinOk a b n m
  · have hE : D = ⟨#[]⟩ := by rw [hD, show joinL a b n m = [] by unfold joinL; rw [h]; rfl]; rfl
    rw [show joinL a b n m = [] by unfold joinL; rw [h]; rfl]
    have HE := Lib.hid hE
    have s1 : D.size = 0 := by rw [hE]; rfl
    clear hD hE
    go_enter Tryd.func51, Tryd.ntmps51
    go_wp2_with fail
    refine (joinMark_s a b n m _ hn hm).mono ?_
    rintro e w1 ⟨rfl, hb1⟩
    rw [← HD.out, HE.out]
    go_wp2_with go_in
    go_ret
    exact ⟨rfl, hb1⟩
  · have hl := joinL_len h
    have s1 : D.size = 32 := by rw [hD, str_size, hl]
    have HE : Hid (D.extract 0 8 = str ((joinL a b n m).take 8)) := Lib.hid (by rw [hD, cut_str _ _ (by omega)])
    clear hD hl
    go_enter Tryd.func51, Tryd.ntmps51
    go_wp2_with fail
    refine (joinMark_s a b n m _ hn hm).mono ?_
    rintro e w1 ⟨rfl, hb1⟩
    rw [← HD.out]
    go_wp2_with go_in
    go_ret
    exact ⟨ret_str HE.out, hb1⟩
theorem doneMark_s (a b : ByteArray) (n m : Int) (w : World) (hn : n ≤ 9223372036854775807) (hm : m ≤ 9223372036854775807) :
    Calls Tryd.prog 53 #[.string a, .string b, .int .i64 n, .int .i64 m] w fun e w' => e = .returned (.string (str ((joinL a b n m).take 20))) ∧ Below w.heap.size w w' := by
  obtain ⟨D, hD⟩ : ∃ D, D = str (joinL a b n m) := ⟨_, rfl⟩
  have HD := Lib.hid hD
  cases h : joinOk a b n m
  · have hE : D = ⟨#[]⟩ := by rw [hD, show joinL a b n m = [] by unfold joinL; rw [h]; rfl]; rfl
    rw [show joinL a b n m = [] by unfold joinL; rw [h]; rfl]
    have HE := Lib.hid hE
    have s1 : D.size = 0 := by rw [hE]; rfl
    clear hD hE
    go_enter Tryd.func53, Tryd.ntmps53
    go_wp2_with fail
    refine (joinMark_s a b n m _ hn hm).mono ?_
    rintro e w1 ⟨rfl, hb1⟩
    rw [← HD.out, HE.out]
    go_wp2_with go_in
    go_ret
    exact ⟨rfl, hb1⟩
  · have hl := joinL_len h
    have s1 : D.size = 32 := by rw [hD, str_size, hl]
    have HE : Hid (D.extract 0 20 = str ((joinL a b n m).take 20)) := Lib.hid (by rw [hD, cut_str _ _ (by omega)])
    clear hD hl
    go_enter Tryd.func53, Tryd.ntmps53
    go_wp2_with fail
    refine (joinMark_s a b n m _ hn hm).mono ?_
    rintro e w1 ⟨rfl, hb1⟩
    rw [← HD.out]
    go_wp2_with go_in
    go_ret
    exact ⟨ret_str HE.out, hb1⟩
end Go.Proofs.YtmhekefjlepfpaaDoor

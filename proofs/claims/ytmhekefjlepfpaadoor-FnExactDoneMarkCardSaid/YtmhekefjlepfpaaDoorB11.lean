/- The walks: the code of an address. -/
import Derived.Test.YtmhekefjlepfpaaDoorProg
import Derived.Test.YtmhekefjlepfpaaDoorK
import Derived.Test.YtmhekefjlepfpaaDoorK2
import Derived.Test.YtmhekefjlepfpaaDoorK4
import Derived.Test.YtmhekefjlepfpaaDoorN
import Derived.Test.YtmhekefjlepfpaaDoorS
import Derived.Test.YtmhekefjlepfpaaDoorS2
import Derived.Test.YtmhekefjlepfpaaDoorA1
import Derived.Test.YtmhekefjlepfpaaDoorA2
import Derived.Test.YtmhekefjlepfpaaDoorB1
import Derived.Test.YtmhekefjlepfpaaDoorB4
import Derived.Test.YtmhekefjlepfpaaDoorB6
import Derived.Test.YtmhekefjlepfpaaDoorB8
import Derived.Test.YtmhekefjlepfpaaDoorB9
import Derived.Test.YtmhekefjlepfpaaDoorB10
import Derived.Outline
namespace Go.Proofs.YtmhekefjlepfpaaDoor
open Go.RowKit
set_option linter.unusedVariables false
set_option linter.unusedSimpArgs false

theorem isE_b {n wd : Int} : (str (numTextL n wd)).toList.isEmpty = !numTextB n wd := by
  cases h : numTextB n wd
  · rw [numTextL_no h, ByteArray.toList_eq]; rfl
  · exact isE_no2 (numText_ne h)
theorem addrL_yes {a b : ByteArray} {n m p : Int} (h : addrOk a b n m p = true) : addrL a b n m p = (hmacL (a.data.toList ++ b.data.toList) ((numTextL n 1 ++ numTextL m 4) ++ numTextL p 2)).drop 24 := by unfold addrL; rw [if_pos h]
theorem addrL_no {a b : ByteArray} {n m p : Int} (h : addrOk a b n m p = false) : addrL a b n m p = [] := by unfold addrL; rw [h]; rfl
theorem addrMark_i (a b : ByteArray) (n m p : Int) (w : World) (hn : n ≤ 9223372036854775807) (hm : m ≤ 9223372036854775807) (hp : p ≤ 9223372036854775807) (hK : HoldsK w) (hS : HoldsS w) :
    Calls Tryd.prog 50 #[.string a, .string b, .int .i64 n, .int .i64 m, .int .i64 p] w fun e w' => e = .returned (.string (str (addrL a b n m p))) ∧ Below w.heap.size w w' := by
  have HKS := Lib.hid (And.intro hK hS)
  clear hK hS
  obtain ⟨X, hX⟩ : ∃ X, X = str (numTextL n 1) := ⟨_, rfl⟩
  obtain ⟨Y, hY⟩ : ∃ Y, Y = str (numTextL m 4) := ⟨_, rfl⟩
  obtain ⟨Z, hZ⟩ : ∃ Z, Z = str (numTextL p 2) := ⟨_, rfl⟩
  have eX : X.toList.isEmpty = !numTextB n 1 := by rw [hX]; exact isE_b
  have eY : Y.toList.isEmpty = !numTextB m 4 := by rw [hY]; exact isE_b
  have eZ : Z.toList.isEmpty = !numTextB p 2 := by rw [hZ]; exact isE_b
  have HX := Lib.hid hX
  have HY := Lib.hid hY
  have HZ := Lib.hid hZ
  cases hok : addrOk a b n m p
  · rw [addrL_no hok, str_nil]
    clear hX hY hZ
    unfold addrOk at hok
    cases h1 : keyOkB a
    · clear hok
      clear eX
      clear eY
      clear eZ
      go_enter Tryd.func50, Tryd.ntmps50
      go_wp2_with fail
      refine (numText_i n 1 _ hn).mono ?_
      rintro e w1 ⟨rfl, hb1⟩
      rw [← HX.out]
      have L1 := Lib.hid hb1
      clear hb1
      go_wp2_with fail
      refine (numText_i m 4 _ hm).mono ?_
      rintro e w2 ⟨rfl, hb2⟩
      rw [← HY.out]
      have L2 := Lib.hid (L1.out.trans (hb2.mono L1.out.size))
      clear hb2
      go_wp2_with fail
      refine (numText_i p 2 _ hp).mono ?_
      rintro e w3 ⟨rfl, hb3⟩
      rw [← HZ.out]
      have L3 := Lib.hid (L2.out.trans (hb3.mono L2.out.size))
      clear hb3
      go_wp2_with fail
      refine (keyOk_i a _).mono ?_
      rintro e w1' ⟨rfl, rfl⟩
      go_wp2
      go_ret
      exact ⟨rfl, L3.out⟩
    cases h2 : keyOkB b
    · clear hok
      clear eX
      clear eY
      clear eZ
      go_enter Tryd.func50, Tryd.ntmps50
      go_wp2_with fail
      refine (numText_i n 1 _ hn).mono ?_
      rintro e w1 ⟨rfl, hb1⟩
      rw [← HX.out]
      have L1 := Lib.hid hb1
      clear hb1
      go_wp2_with fail
      refine (numText_i m 4 _ hm).mono ?_
      rintro e w2 ⟨rfl, hb2⟩
      rw [← HY.out]
      have L2 := Lib.hid (L1.out.trans (hb2.mono L1.out.size))
      clear hb2
      go_wp2_with fail
      refine (numText_i p 2 _ hp).mono ?_
      rintro e w3 ⟨rfl, hb3⟩
      rw [← HZ.out]
      have L3 := Lib.hid (L2.out.trans (hb3.mono L2.out.size))
      clear hb3
      go_wp2_with fail
      refine (keyOk_i a _).mono ?_
      rintro e w1' ⟨rfl, rfl⟩
      go_wp2_with fail
      refine (keyOk_i b _).mono ?_
      rintro e w1' ⟨rfl, rfl⟩
      go_wp2
      go_ret
      exact ⟨rfl, L3.out⟩
    cases h3 : numTextB n 1
    · rw [h3] at eX
      clear hok
      clear eY
      clear eZ
      clear h3
      go_enter Tryd.func50, Tryd.ntmps50
      go_wp2_with fail
      refine (numText_i n 1 _ hn).mono ?_
      rintro e w1 ⟨rfl, hb1⟩
      rw [← HX.out]
      have L1 := Lib.hid hb1
      clear hb1
      go_wp2_with fail
      refine (numText_i m 4 _ hm).mono ?_
      rintro e w2 ⟨rfl, hb2⟩
      rw [← HY.out]
      have L2 := Lib.hid (L1.out.trans (hb2.mono L1.out.size))
      clear hb2
      go_wp2_with fail
      refine (numText_i p 2 _ hp).mono ?_
      rintro e w3 ⟨rfl, hb3⟩
      rw [← HZ.out]
      have L3 := Lib.hid (L2.out.trans (hb3.mono L2.out.size))
      clear hb3
      go_wp2_with fail
      refine (keyOk_i a _).mono ?_
      rintro e w1' ⟨rfl, rfl⟩
      go_wp2_with fail
      refine (keyOk_i b _).mono ?_
      rintro e w1' ⟨rfl, rfl⟩
      go_wp2
      go_ret
      exact ⟨rfl, L3.out⟩
    cases h4 : numTextB m 4
    · rw [h3] at eX
      rw [h4] at eY
      clear hok
      clear eZ
      clear h3
      clear h4
      go_enter Tryd.func50, Tryd.ntmps50
      go_wp2_with fail
      refine (numText_i n 1 _ hn).mono ?_
      rintro e w1 ⟨rfl, hb1⟩
      rw [← HX.out]
      have L1 := Lib.hid hb1
      clear hb1
      go_wp2_with fail
      refine (numText_i m 4 _ hm).mono ?_
      rintro e w2 ⟨rfl, hb2⟩
      rw [← HY.out]
      have L2 := Lib.hid (L1.out.trans (hb2.mono L1.out.size))
      clear hb2
      go_wp2_with fail
      refine (numText_i p 2 _ hp).mono ?_
      rintro e w3 ⟨rfl, hb3⟩
      rw [← HZ.out]
      have L3 := Lib.hid (L2.out.trans (hb3.mono L2.out.size))
      clear hb3
      go_wp2_with fail
      refine (keyOk_i a _).mono ?_
      rintro e w1' ⟨rfl, rfl⟩
      go_wp2_with fail
      refine (keyOk_i b _).mono ?_
      rintro e w1' ⟨rfl, rfl⟩
      go_wp2
      go_ret
      exact ⟨rfl, L3.out⟩
    have h5 : numTextB p 2 = false := by rw [h1, h2, h3, h4] at hok; simpa using hok
    rw [h3] at eX
    rw [h4] at eY
    rw [h5] at eZ
    clear hok
    clear h3
    clear h4
    clear h5
    go_enter Tryd.func50, Tryd.ntmps50
    go_wp2_with fail
    refine (numText_i n 1 _ hn).mono ?_
    rintro e w1 ⟨rfl, hb1⟩
    rw [← HX.out]
    have L1 := Lib.hid hb1
    clear hb1
    go_wp2_with fail
    refine (numText_i m 4 _ hm).mono ?_
    rintro e w2 ⟨rfl, hb2⟩
    rw [← HY.out]
    have L2 := Lib.hid (L1.out.trans (hb2.mono L1.out.size))
    clear hb2
    go_wp2_with fail
    refine (numText_i p 2 _ hp).mono ?_
    rintro e w3 ⟨rfl, hb3⟩
    rw [← HZ.out]
    have L3 := Lib.hid (L2.out.trans (hb3.mono L2.out.size))
    clear hb3
    go_wp2_with fail
    refine (keyOk_i a _).mono ?_
    rintro e w1' ⟨rfl, rfl⟩
    go_wp2_with fail
    refine (keyOk_i b _).mono ?_
    rintro e w1' ⟨rfl, rfl⟩
    go_wp2
    go_ret
    exact ⟨rfl, L3.out⟩
  · rw [addrL_yes hok]
    have hj := hok
    unfold addrOk at hok
    simp only [Bool.and_eq_true] at hok
    obtain ⟨⟨⟨⟨h1, h2⟩, h3⟩, h4⟩, h5⟩ := hok
    have z1 := keyOk_size h1
    have z2 := keyOk_size h2
    have sX : X.size = 1 := by rw [hX]; exact numStr_size h3 rfl
    have sY : Y.size = 4 := by rw [hY]; exact numStr_size h4 rfl
    have sZ : Z.size = 2 := by rw [hZ]; exact numStr_size h5 rfl
    rw [h3] at eX
    rw [h4] at eY
    rw [h5] at eZ
    obtain ⟨D, hD⟩ : ∃ D, D = str (hmacL (a ++ b).data.toList ((X ++ Y) ++ Z).data.toList) := ⟨_, rfl⟩
    have sD : D.size = 32 := by rw [hD, str_size, hmacL_len]
    have HE : Hid (D.extract 24 32 = str ((hmacL (a.data.toList ++ b.data.toList) ((numTextL n 1 ++ numTextL m 4) ++ numTextL p 2)).drop 24)) := Lib.hid (by
      rw [hD, cut_str' _ _ _ (hmacL_len _ _).symm, app_toList, app_toList, app_toList, hX, hY, hZ, str_toList, str_toList, str_toList])
    have HD := Lib.hid hD
    have S1 : Hid ((a ++ b).size ≤ 10000000) := Lib.hid (by rw [ByteArray.size_append]; omega)
    have S2 : Hid (((X ++ Y) ++ Z).size ≤ 10000000) := Lib.hid (by rw [ByteArray.size_append, ByteArray.size_append]; omega)
    clear hX hY hZ hD hj h3 h4 h5
    go_enter Tryd.func50, Tryd.ntmps50
    go_wp2_with fail
    refine (numText_i n 1 _ hn).mono ?_
    rintro e w1 ⟨rfl, hb1⟩
    rw [← HX.out]
    have L1 := Lib.hid hb1
    clear hb1
    go_wp2_with fail
    refine (numText_i m 4 _ hm).mono ?_
    rintro e w2 ⟨rfl, hb2⟩
    rw [← HY.out]
    have L2 := Lib.hid (L1.out.trans (hb2.mono L1.out.size))
    clear hb2
    go_wp2_with fail
    refine (numText_i p 2 _ hp).mono ?_
    rintro e w3 ⟨rfl, hb3⟩
    rw [← HZ.out]
    have L3 := Lib.hid (L2.out.trans (hb3.mono L2.out.size))
    clear hb3
    go_wp2_with fail
    refine (keyOk_i a _).mono ?_
    rintro e w1' ⟨rfl, rfl⟩
    go_wp2_with fail
    refine (keyOk_i b _).mono ?_
    rintro e w1' ⟨rfl, rfl⟩
    go_wp2_with fail
    refine (hmac_i (a ++ b) ((X ++ Y) ++ Z) _ S1.out S2.out (HKS.out.1.below L3.out) (HKS.out.2.below L3.out)).mono ?_
    rintro e w9 ⟨rfl, hb9⟩
    rw [← HD.out]
    go_wp2
    go_ret
    exact ⟨ret_str HE.out, L3.out.trans (hb9.mono L3.out.size)⟩
theorem addrMark_s (a b : ByteArray) (n m p : Int) (w : World) (hn : n ≤ 9223372036854775807) (hm : m ≤ 9223372036854775807) (hp : p ≤ 9223372036854775807) :
    Calls Tryd.prog 49 #[.string a, .string b, .int .i64 n, .int .i64 m, .int .i64 p] w fun e w' => e = .returned (.string (str (addrL a b n m p))) ∧ Below w.heap.size w w' := by
  obtain ⟨X, hX⟩ : ∃ X, X = str (numTextL n 1) := ⟨_, rfl⟩
  obtain ⟨Y, hY⟩ : ∃ Y, Y = str (numTextL m 4) := ⟨_, rfl⟩
  obtain ⟨Z, hZ⟩ : ∃ Z, Z = str (numTextL p 2) := ⟨_, rfl⟩
  have eX : X.toList.isEmpty = !numTextB n 1 := by rw [hX]; exact isE_b
  have eY : Y.toList.isEmpty = !numTextB m 4 := by rw [hY]; exact isE_b
  have eZ : Z.toList.isEmpty = !numTextB p 2 := by rw [hZ]; exact isE_b
  have HX := Lib.hid hX
  have HY := Lib.hid hY
  have HZ := Lib.hid hZ
  cases hok : addrOk a b n m p
  · rw [addrL_no hok, str_nil]
    clear hX hY hZ
    unfold addrOk at hok
    cases h1 : keyOkB a
    · clear hok
      clear eX
      clear eY
      clear eZ
      go_enter Tryd.func49, Tryd.ntmps49
      go_wp2_with fail
      refine (keyOk_s a _).mono ?_
      rintro e w1' ⟨rfl, rfl⟩
      go_wp2
      go_ret
      exact ⟨rfl, Below.refl _ _⟩
    cases h2 : keyOkB b
    · clear hok
      clear eX
      clear eY
      clear eZ
      go_enter Tryd.func49, Tryd.ntmps49
      go_wp2_with fail
      refine (keyOk_s a _).mono ?_
      rintro e w1' ⟨rfl, rfl⟩
      go_wp2_with fail
      refine (keyOk_s b _).mono ?_
      rintro e w1' ⟨rfl, rfl⟩
      go_wp2
      go_ret
      exact ⟨rfl, Below.refl _ _⟩
    cases h3 : numTextB n 1
    · rw [h3] at eX
      clear hok
      clear eY
      clear eZ
      clear h3
      go_enter Tryd.func49, Tryd.ntmps49
      go_wp2_with fail
      refine (keyOk_s a _).mono ?_
      rintro e w1' ⟨rfl, rfl⟩
      go_wp2_with fail
      refine (keyOk_s b _).mono ?_
      rintro e w1' ⟨rfl, rfl⟩
      go_wp2_with fail
      refine (numText_s n 1 _ hn).mono ?_
      rintro e w1 ⟨rfl, hb1⟩
      rw [← HX.out]
      have L1 := Lib.hid hb1
      clear hb1
      go_wp2
      go_ret
      exact ⟨rfl, L1.out⟩
    cases h4 : numTextB m 4
    · rw [h3] at eX
      rw [h4] at eY
      clear hok
      clear eZ
      clear h3
      clear h4
      go_enter Tryd.func49, Tryd.ntmps49
      go_wp2_with fail
      refine (keyOk_s a _).mono ?_
      rintro e w1' ⟨rfl, rfl⟩
      go_wp2_with fail
      refine (keyOk_s b _).mono ?_
      rintro e w1' ⟨rfl, rfl⟩
      go_wp2_with fail
      refine (numText_s n 1 _ hn).mono ?_
      rintro e w1 ⟨rfl, hb1⟩
      rw [← HX.out]
      have L1 := Lib.hid hb1
      clear hb1
      go_wp2_with fail
      refine (numText_s m 4 _ hm).mono ?_
      rintro e w2 ⟨rfl, hb2⟩
      rw [← HY.out]
      have L2 := Lib.hid (L1.out.trans (hb2.mono L1.out.size))
      clear hb2
      go_wp2
      go_ret
      exact ⟨rfl, L2.out⟩
    have h5 : numTextB p 2 = false := by rw [h1, h2, h3, h4] at hok; simpa using hok
    rw [h3] at eX
    rw [h4] at eY
    rw [h5] at eZ
    clear hok
    clear h3
    clear h4
    clear h5
    go_enter Tryd.func49, Tryd.ntmps49
    go_wp2_with fail
    refine (keyOk_s a _).mono ?_
    rintro e w1' ⟨rfl, rfl⟩
    go_wp2_with fail
    refine (keyOk_s b _).mono ?_
    rintro e w1' ⟨rfl, rfl⟩
    go_wp2_with fail
    refine (numText_s n 1 _ hn).mono ?_
    rintro e w1 ⟨rfl, hb1⟩
    rw [← HX.out]
    have L1 := Lib.hid hb1
    clear hb1
    go_wp2_with fail
    refine (numText_s m 4 _ hm).mono ?_
    rintro e w2 ⟨rfl, hb2⟩
    rw [← HY.out]
    have L2 := Lib.hid (L1.out.trans (hb2.mono L1.out.size))
    clear hb2
    go_wp2_with fail
    refine (numText_s p 2 _ hp).mono ?_
    rintro e w3 ⟨rfl, hb3⟩
    rw [← HZ.out]
    have L3 := Lib.hid (L2.out.trans (hb3.mono L2.out.size))
    clear hb3
    go_wp2
    go_ret
    exact ⟨rfl, L3.out⟩
  · rw [addrL_yes hok]
    have hj := hok
    unfold addrOk at hok
    simp only [Bool.and_eq_true] at hok
    obtain ⟨⟨⟨⟨h1, h2⟩, h3⟩, h4⟩, h5⟩ := hok
    have z1 := keyOk_size h1
    have z2 := keyOk_size h2
    have sX : X.size = 1 := by rw [hX]; exact numStr_size h3 rfl
    have sY : Y.size = 4 := by rw [hY]; exact numStr_size h4 rfl
    have sZ : Z.size = 2 := by rw [hZ]; exact numStr_size h5 rfl
    rw [h3] at eX
    rw [h4] at eY
    rw [h5] at eZ
    obtain ⟨D, hD⟩ : ∃ D, D = str (hmacL (a ++ b).data.toList ((X ++ Y) ++ Z).data.toList) := ⟨_, rfl⟩
    have sD : D.size = 32 := by rw [hD, str_size, hmacL_len]
    have HE : Hid (D.extract 24 32 = str ((hmacL (a.data.toList ++ b.data.toList) ((numTextL n 1 ++ numTextL m 4) ++ numTextL p 2)).drop 24)) := Lib.hid (by
      rw [hD, cut_str' _ _ _ (hmacL_len _ _).symm, app_toList, app_toList, app_toList, hX, hY, hZ, str_toList, str_toList, str_toList])
    have HD := Lib.hid hD
    have S1 : Hid ((a ++ b).size ≤ 10000000) := Lib.hid (by rw [ByteArray.size_append]; omega)
    have S2 : Hid (((X ++ Y) ++ Z).size ≤ 10000000) := Lib.hid (by rw [ByteArray.size_append, ByteArray.size_append]; omega)
    clear hX hY hZ hD hj h3 h4 h5
    go_enter Tryd.func49, Tryd.ntmps49
    go_wp2_with fail
    refine (keyOk_s a _).mono ?_
    rintro e w1' ⟨rfl, rfl⟩
    go_wp2_with fail
    refine (keyOk_s b _).mono ?_
    rintro e w1' ⟨rfl, rfl⟩
    go_wp2_with fail
    refine (numText_s n 1 _ hn).mono ?_
    rintro e w1 ⟨rfl, hb1⟩
    rw [← HX.out]
    have L1 := Lib.hid hb1
    clear hb1
    go_wp2_with fail
    refine (numText_s m 4 _ hm).mono ?_
    rintro e w2 ⟨rfl, hb2⟩
    rw [← HY.out]
    have L2 := Lib.hid (L1.out.trans (hb2.mono L1.out.size))
    clear hb2
    go_wp2_with fail
    refine (numText_s p 2 _ hp).mono ?_
    rintro e w3 ⟨rfl, hb3⟩
    rw [← HZ.out]
    have L3 := Lib.hid (L2.out.trans (hb3.mono L2.out.size))
    clear hb3
    go_wp2_with fail
    refine (numText_s n 1 _ hn).mono ?_
    rintro e w4 ⟨rfl, hb4⟩
    rw [← HX.out]
    have L4 := Lib.hid (L3.out.trans (hb4.mono L3.out.size))
    clear hb4
    go_wp2_with fail
    refine (numText_s m 4 _ hm).mono ?_
    rintro e w5 ⟨rfl, hb5⟩
    rw [← HY.out]
    have L5 := Lib.hid (L4.out.trans (hb5.mono L4.out.size))
    clear hb5
    go_wp2_with fail
    refine (numText_s p 2 _ hp).mono ?_
    rintro e w6 ⟨rfl, hb6⟩
    rw [← HZ.out]
    have L6 := Lib.hid (L5.out.trans (hb6.mono L5.out.size))
    clear hb6
    go_wp2_with fail
    refine (hmac_s (a ++ b) ((X ++ Y) ++ Z) _ S1.out S2.out).mono ?_
    rintro e w9 ⟨rfl, hb9⟩
    rw [← HD.out]
    go_wp2
    go_ret
    exact ⟨ret_str HE.out, L6.out.trans (hb9.mono L6.out.size)⟩
end Go.Proofs.YtmhekefjlepfpaaDoor

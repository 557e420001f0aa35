/- The walks: the cut digests and marks, tokens, the codes of keys and numbers. -/
import Derived.Test.YtmhekefjlepfpaaDoorProg
import Derived.Test.YtmhekefjlepfpaaDoorK
import Derived.Test.YtmhekefjlepfpaaDoorK2
import Derived.Test.YtmhekefjlepfpaaDoorK3
import Derived.Test.YtmhekefjlepfpaaDoorK4
import Derived.Test.YtmhekefjlepfpaaDoorN
import Derived.Test.YtmhekefjlepfpaaDoorS
import Derived.Test.YtmhekefjlepfpaaDoorS2
import Derived.Test.YtmhekefjlepfpaaDoorA1
import Derived.Test.YtmhekefjlepfpaaDoorA2
import Derived.Test.YtmhekefjlepfpaaDoorA3
import Derived.Test.YtmhekefjlepfpaaDoorA5
import Derived.Test.YtmhekefjlepfpaaDoorB1
import Derived.Test.YtmhekefjlepfpaaDoorB4
import Derived.Test.YtmhekefjlepfpaaDoorB6
import Derived.Test.YtmhekefjlepfpaaDoorB7
import Derived.Test.YtmhekefjlepfpaaDoorB8
import Derived.Outline
namespace Go.Proofs.YtmhekefjlepfpaaDoor
open Go.RowKit
set_option linter.unusedVariables false
set_option linter.unusedSimpArgs false

theorem cut_str (l : List UInt8) (n : Nat) (h : n ≤ l.length) : (str l).extract 0 n = str (l.take n) := by
  have e : ((str l).extract 0 n).data.toList = l.take n := by
    rw [ext_data _ _ _ (by rw [str_size]; exact h), str_toList]; simp
  rw [← str_of ((str l).extract 0 n), e]
theorem cut_str' (l : List UInt8) (n m : Nat) (h : m = l.length) : (str l).extract n m = str (l.drop n) := by
  have e : ((str l).extract n m).data.toList = l.drop n := by
    rw [ext_data _ _ _ (by rw [str_size]; omega), str_toList, h, List.take_of_length_le (by simp)]
  rw [← str_of ((str l).extract n m), e]
theorem within_i_yes (n a b : Int) (w : World) (h : a ≤ n ∧ n ≤ b) : Calls Tryd.prog 70 #[.int .i64 n, .int .i64 a, .int .i64 b] w fun e w' => e = .returned (.bool true) ∧ w = w' :=
  (within_i n a b w).mono fun _ _ ⟨h1, h2⟩ => ⟨by rw [h1, decide_eq_true h.1, decide_eq_true h.2]; rfl, h2⟩
theorem within_i_no (n a b : Int) (w : World) (h : ¬ (a ≤ n ∧ n ≤ b)) : Calls Tryd.prog 70 #[.int .i64 n, .int .i64 a, .int .i64 b] w fun e w' => e = .returned (.bool false) ∧ w = w' :=
  (within_i n a b w).mono fun _ _ ⟨h1, h2⟩ => ⟨by rw [h1, ← Bool.decide_and, decide_eq_false h], h2⟩
theorem within_s_yes (n a b : Int) (w : World) (h : a ≤ n ∧ n ≤ b) : Calls Tryd.prog 69 #[.int .i64 n, .int .i64 a, .int .i64 b] w fun e w' => e = .returned (.bool true) ∧ w = w' :=
  (within_s n a b w).mono fun _ _ ⟨h1, h2⟩ => ⟨by rw [h1, decide_eq_true h.1, decide_eq_true h.2]; rfl, h2⟩
theorem within_s_no (n a b : Int) (w : World) (h : ¬ (a ≤ n ∧ n ≤ b)) : Calls Tryd.prog 69 #[.int .i64 n, .int .i64 a, .int .i64 b] w fun e w' => e = .returned (.bool false) ∧ w = w' :=
  (within_s n a b w).mono fun _ _ ⟨h1, h2⟩ => ⟨by rw [h1, ← Bool.decide_and, decide_eq_false h], h2⟩
/-- a key's start -/
def startL (s : ByteArray) : List UInt8 := if keyOkB s then (digL s.data.toList).drop 24 else []
/-- a key's token -/
def tokN (s : ByteArray) : Nat := if keyOkB s then numAtN (str (digL s.data.toList)) 0 4 else 0
/-- the first n bytes, where n is 1 .. 32 -/
def cutL (l : List UInt8) (n : Int) : List UInt8 := if 1 ≤ n ∧ n ≤ 32 then l.take n.toNat else []
theorem isE_no {l : List UInt8} (h : l ≠ []) : (str l).data.toList.isEmpty = false := by rw [str_toList]; cases l <;> simp_all
theorem numText_ne {n wd : Int} (h : numTextB n wd = true) : numTextL n wd ≠ [] := by
  intro e
  have := numTextL_len h
  obtain ⟨N, W, rfl, rfl, h1, h6, hl⟩ := numTextB_yes h
  rw [e] at this
  simp at this
  omega
theorem str_nil : str [] = ⟨#[]⟩ := rfl
theorem ks_split {P Q : Prop} {w : World} (hK : HoldsK w) (hS : HoldsS w) : Hid (HoldsK w ∧ HoldsS w) := Lib.hid ⟨hK, hS⟩
theorem numTextB_4 {n : Int} : numTextB n 4 = (decide (0 ≤ n) && decide (n ≤ 4294967295)) := by
  unfold numTextB
  rw [Bool.eq_iff_iff]
  simp only [Bool.and_eq_true, decide_eq_true_eq]
  constructor
  · rintro ⟨⟨⟨h0, _⟩, _⟩, h⟩
    have : n < 4294967296 := h
    omega
  · rintro ⟨h0, h⟩
    refine ⟨⟨⟨h0, by omega⟩, by omega⟩, ?_⟩
    show n < 4294967296
    omega
def joinOk (a b : ByteArray) (n m : Int) : Bool := keyOkB a && keyOkB b && numTextB n 4 && numTextB m 4
def joinL (a b : ByteArray) (n m : Int) : List UInt8 := if joinOk a b n m then hmacL (a.data.toList ++ b.data.toList) (numTextL n 4 ++ numTextL m 4) else []
theorem joinL_len {a b : ByteArray} {n m : Int} (h : joinOk a b n m = true) : (joinL a b n m).length = 32 := by unfold joinL; rw [if_pos h, hmacL_len]
def addrOk (a b : ByteArray) (n m p : Int) : Bool := keyOkB a && keyOkB b && numTextB n 1 && numTextB m 4 && numTextB p 2
def addrL (a b : ByteArray) (n m p : Int) : List UInt8 := if addrOk a b n m p then (hmacL (a.data.toList ++ b.data.toList) ((numTextL n 1 ++ numTextL m 4) ++ numTextL p 2)).drop 24 else []
theorem cutDigest_i (s : ByteArray) (n : Int) (w : World) (hs : s.size ≤ 10000000) (hK : HoldsK w) (hS : HoldsS w) :
    Calls Tryd.prog 29 #[.string s, .int .i64 n] w fun e w' => e = .returned (.string (str (cutL (digL s.data.toList) n))) ∧ Below w.heap.size w w' := by
  have HKS := Lib.hid (And.intro hK hS)
  clear hK hS
  by_cases hin : 1 ≤ n ∧ n ≤ 32
  · obtain ⟨N, rfl⟩ := Int.eq_ofNat_of_zero_le (show 0 ≤ n by omega)
    obtain ⟨D, hD⟩ : ∃ D, D = str (digL s.data.toList) := ⟨_, rfl⟩
    have hlen : (digL s.data.toList).length = 32 := digL_len _
    have s1 : D.size = 32 := by rw [hD, str_size, hlen]
    have HE : Hid (D.extract 0 N = str (cutL (digL s.data.toList) N)) := Lib.hid (by
      unfold cutL
      rw [if_pos hin, hD, cut_str _ _ (by rw [hlen]; omega)]
      rfl)
    have HD := Lib.hid hD
    obtain ⟨h1, h32⟩ := hin
    clear hD hlen
    go_enter Tryd.func29, Tryd.ntmps29
    go_wp2_with fail
    refine (within_i_yes N 1 32 _ ⟨h1, h32⟩).mono ?_
    rintro e w1 ⟨rfl, rfl⟩
    go_wp2_with fail
    refine (digest_i s _ (by omega) HKS.out.1 HKS.out.2).mono ?_
    rintro e w1 ⟨rfl, hb1⟩
    rw [← HD.out]
    go_wp2
    go_ret
    exact ⟨ret_str HE.out, hb1⟩
  · have e : cutL (digL s.data.toList) n = [] := by unfold cutL; rw [if_neg hin]
    rw [e]
    have HI := Lib.hid hin
    clear hin e
    go_enter Tryd.func29, Tryd.ntmps29
    go_wp2_with fail
    refine (within_i_no n 1 32 _ HI.out).mono ?_
    rintro e w1 ⟨rfl, rfl⟩
    go_wp2
    go_ret
    exact ⟨rfl, Below.refl _ _⟩
theorem cutMark_i (k t : ByteArray) (n : Int) (w : World) (hk : k.size ≤ 10000000) (ht : t.size ≤ 10000000) (hK : HoldsK w) (hS : HoldsS w) :
    Calls Tryd.prog 46 #[.string k, .string t, .int .i64 n] w fun e w' => e = .returned (.string (str (cutL (hmacL k.data.toList t.data.toList) n))) ∧ Below w.heap.size w w' := by
  have HKS := Lib.hid (And.intro hK hS)
  clear hK hS
  by_cases hin : 1 ≤ n ∧ n ≤ 32
  · obtain ⟨N, rfl⟩ := Int.eq_ofNat_of_zero_le (show 0 ≤ n by omega)
    obtain ⟨D, hD⟩ : ∃ D, D = str (hmacL k.data.toList t.data.toList) := ⟨_, rfl⟩
    have hlen : (hmacL k.data.toList t.data.toList).length = 32 := hmacL_len _ _
    have s1 : D.size = 32 := by rw [hD, str_size, hlen]
    have HE : Hid (D.extract 0 N = str (cutL (hmacL k.data.toList t.data.toList) N)) := Lib.hid (by
      unfold cutL
      rw [if_pos hin, hD, cut_str _ _ (by rw [hlen]; omega)]
      rfl)
    have HD := Lib.hid hD
    obtain ⟨h1, h32⟩ := hin
    clear hD hlen
    go_enter Tryd.func46, Tryd.ntmps46
    go_wp2_with fail
    refine (within_i_yes N 1 32 _ ⟨h1, h32⟩).mono ?_
    rintro e w1 ⟨rfl, rfl⟩
    go_wp2_with fail
    refine (hmac_i k t _ hk ht HKS.out.1 HKS.out.2).mono ?_
    rintro e w1 ⟨rfl, hb1⟩
    rw [← HD.out]
    go_wp2
    go_ret
    exact ⟨ret_str HE.out, hb1⟩
  · have e : cutL (hmacL k.data.toList t.data.toList) n = [] := by unfold cutL; rw [if_neg hin]
    rw [e]
    have HI := Lib.hid hin
    clear hin e
    go_enter Tryd.func46, Tryd.ntmps46
    go_wp2_with fail
    refine (within_i_no n 1 32 _ HI.out).mono ?_
    rintro e w1 ⟨rfl, rfl⟩
    go_wp2
    go_ret
    exact ⟨rfl, Below.refl _ _⟩
theorem tokenOf_i (s : ByteArray) (w : World) (hK : HoldsK w) (hS : HoldsS w) :
    Calls Tryd.prog 44 #[.string s] w fun e w' => e = .returned (.int .i64 (tokN s : Nat)) ∧ Below w.heap.size w w' := by
  have HKS := Lib.hid (And.intro hK hS)
  clear hK hS
  cases hok : keyOkB s
  · rw [show tokN s = 0 by unfold tokN; rw [hok]; rfl]
    go_enter Tryd.func44, Tryd.ntmps44
    go_wp2_with (go_at_call 72; refine (keyOk_i _ _).mono ?_; rintro e w1 ⟨rfl, rfl⟩)
    go_ret
    exact ⟨rfl, Below.refl _ _⟩
  · rw [show tokN s = numAtN (str (digL s.data.toList)) 0 4 by unfold tokN; rw [hok]; rfl]
    have hs : Hid (s.size ≤ 10000000) := Lib.hid (by unfold keyOkB at hok; simp at hok; omega)
    obtain ⟨D, hD⟩ : ∃ D, D = str (digL s.data.toList) := ⟨_, rfl⟩
    rw [← hD]
    have s1 : Hid (D.size ≤ 9223372036854775807) := Lib.hid (by rw [hD, str_size, digL_len]; omega)
    have HD := Lib.hid hD
    clear hD
    go_enter Tryd.func44, Tryd.ntmps44
    go_wp2_with fail
    refine (keyOk_i _ _).mono ?_
    rintro e w1 ⟨rfl, rfl⟩
    go_wp2_with fail
    refine (digest_i s _ (by have := hs.out; omega) HKS.out.1 HKS.out.2).mono ?_
    rintro e w1 ⟨rfl, hb1⟩
    rw [← HD.out]
    go_wp2_with fail
    refine (numAt_i D 0 4 _ s1.out).mono ?_
    rintro e w2 ⟨rfl, hb2⟩
    go_wp2
    go_ret
    exact ⟨rfl, hb1.trans (hb2.mono hb1.size)⟩
theorem startOf_i (s : ByteArray) (w : World) (hK : HoldsK w) (hS : HoldsS w) :
    Calls Tryd.prog 31 #[.string s] w fun e w' => e = .returned (.string (str (startL s))) ∧ Below w.heap.size w w' := by
  have HKS := Lib.hid (And.intro hK hS)
  clear hK hS
  cases hok : keyOkB s
  · rw [show startL s = [] by unfold startL; rw [hok]; rfl]
    go_enter Tryd.func31, Tryd.ntmps31
    go_wp2_with (go_at_call 72; refine (keyOk_i _ _).mono ?_; rintro e w1 ⟨rfl, rfl⟩)
    go_ret
    exact ⟨rfl, Below.refl _ _⟩
  · rw [show startL s = (digL s.data.toList).drop 24 by unfold startL; rw [hok]; rfl]
    have hs : Hid (s.size ≤ 10000000) := Lib.hid (by unfold keyOkB at hok; simp at hok; omega)
    obtain ⟨D, hD⟩ : ∃ D, D = str (digL s.data.toList) := ⟨_, rfl⟩
    have s1 : D.size = 32 := by rw [hD, str_size, digL_len]
    have HE : Hid (D.extract 24 32 = str ((digL s.data.toList).drop 24)) := Lib.hid (by rw [hD, cut_str' _ _ _ (digL_len _).symm])
    have HD := Lib.hid hD
    clear hD
    go_enter Tryd.func31, Tryd.ntmps31
    go_wp2_with fail
    refine (keyOk_i _ _).mono ?_
    rintro e w1 ⟨rfl, rfl⟩
    go_wp2_with fail
    refine (digest_i s _ (by have := hs.out; omega) HKS.out.1 HKS.out.2).mono ?_
    rintro e w1 ⟨rfl, hb1⟩
    rw [← HD.out]
    go_wp2
    go_ret
    exact ⟨ret_str HE.out, hb1⟩
theorem hmacOk_i (k t g : ByteArray) (w : World) (hk : k.size ≤ 10000000) (ht : t.size ≤ 10000000) (hK : HoldsK w) (hS : HoldsS w) :
    Calls Tryd.prog 42 #[.string k, .string t, .string g] w fun e w' => e = .returned (.bool ((str (hmacL k.data.toList t.data.toList)).toList == g.toList)) ∧ Below w.heap.size w w' := by
  have HKS := Lib.hid (And.intro hK hS)
  clear hK hS
  obtain ⟨D, hD⟩ : ∃ D, D = str (hmacL k.data.toList t.data.toList) := ⟨_, rfl⟩
  rw [← hD]
  have HD := Lib.hid hD
  clear hD
  go_enter Tryd.func42, Tryd.ntmps42
  go_wp2_with fail
  refine (hmac_i k t _ hk ht HKS.out.1 HKS.out.2).mono ?_
  rintro e w1 ⟨rfl, hb1⟩
  rw [← HD.out]
  go_wp2
  go_ret
  exact ⟨rfl, hb1⟩
theorem digestHex_i (s : ByteArray) (w : World) (hs : s.size ≤ 10000000) (hK : HoldsK w) (hS : HoldsS w) :
    Calls Tryd.prog 38 #[.string s] w fun e w' => e = .returned (.string (str (hexL (digL s.data.toList)))) ∧ Below w.heap.size w w' := by
  have HKS := Lib.hid (And.intro hK hS)
  clear hK hS
  obtain ⟨D, hD⟩ : ∃ D, D = str (digL s.data.toList) := ⟨_, rfl⟩
  have hDl : D.data.toList = digL s.data.toList := by rw [hD, str_toList]
  have s1 : Hid (D.size ≤ 20000) := Lib.hid (by rw [hD, str_size, digL_len]; omega)
  rw [← hDl]
  have HD := Lib.hid hD
  clear hD hDl
  go_enter Tryd.func38, Tryd.ntmps38
  go_wp2_with fail
  refine (digest_i s _ (by omega) HKS.out.1 HKS.out.2).mono ?_
  rintro e w1 ⟨rfl, hb1⟩
  rw [← HD.out]
  go_wp2_with fail
  refine (hex_i D _ s1.out).mono ?_
  rintro e w2 ⟨rfl, hb2⟩
  go_wp2
  go_ret
  exact ⟨rfl, hb1.trans (hb2.mono hb1.size)⟩
theorem cutDigest_s (s : ByteArray) (n : Int) (w : World) (hs : s.size ≤ 10000000) :
    Calls Tryd.prog 28 #[.string s, .int .i64 n] w fun e w' => e = .returned (.string (str (cutL (digL s.data.toList) n))) ∧ Below w.heap.size w w' := by
  by_cases hin : 1 ≤ n ∧ n ≤ 32
  · obtain ⟨N, rfl⟩ := Int.eq_ofNat_of_zero_le (show 0 ≤ n by omega)
    obtain ⟨D, hD⟩ : ∃ D, D = str (digL s.data.toList) := ⟨_, rfl⟩
    have hlen : (digL s.data.toList).length = 32 := digL_len _
    have s1 : D.size = 32 := by rw [hD, str_size, hlen]
    have HE : Hid (D.extract 0 N = str (cutL (digL s.data.toList) N)) := Lib.hid (by
      unfold cutL
      rw [if_pos hin, hD, cut_str _ _ (by rw [hlen]; omega)]
      rfl)
    have HD := Lib.hid hD
    obtain ⟨h1, h32⟩ := hin
    clear hD hlen
    go_enter Tryd.func28, Tryd.ntmps28
    go_wp2_with fail
    refine (within_s_yes N 1 32 _ ⟨h1, h32⟩).mono ?_
    rintro e w1 ⟨rfl, rfl⟩
    go_wp2_with fail
    refine (digest_s s _ (by omega)).mono ?_
    rintro e w1 ⟨rfl, hb1⟩
    rw [← HD.out]
    go_wp2
    go_ret
    exact ⟨ret_str HE.out, hb1⟩
  · have e : cutL (digL s.data.toList) n = [] := by unfold cutL; rw [if_neg hin]
    rw [e]
    have HI := Lib.hid hin
    clear hin e
    go_enter Tryd.func28, Tryd.ntmps28
    go_wp2_with fail
    refine (within_s_no n 1 32 _ HI.out).mono ?_
    rintro e w1 ⟨rfl, rfl⟩
    go_wp2
    go_ret
    exact ⟨rfl, Below.refl _ _⟩
theorem cutMark_s (k t : ByteArray) (n : Int) (w : World) (hk : k.size ≤ 10000000) (ht : t.size ≤ 10000000) :
    Calls Tryd.prog 45 #[.string k, .string t, .int .i64 n] w fun e w' => e = .returned (.string (str (cutL (hmacL k.data.toList t.data.toList) n))) ∧ Below w.heap.size w w' := by
  by_cases hin : 1 ≤ n ∧ n ≤ 32
  · obtain ⟨N, rfl⟩ := Int.eq_ofNat_of_zero_le (show 0 ≤ n by omega)
    obtain ⟨D, hD⟩ : ∃ D, D = str (hmacL k.data.toList t.data.toList) := ⟨_, rfl⟩
    have hlen : (hmacL k.data.toList t.data.toList).length = 32 := hmacL_len _ _
    have s1 : D.size = 32 := by rw [hD, str_size, hlen]
    have HE : Hid (D.extract 0 N = str (cutL (hmacL k.data.toList t.data.toList) N)) := Lib.hid (by
      unfold cutL
      rw [if_pos hin, hD, cut_str _ _ (by rw [hlen]; omega)]
      rfl)
    have HD := Lib.hid hD
    obtain ⟨h1, h32⟩ := hin
    clear hD hlen
    go_enter Tryd.func45, Tryd.ntmps45
    go_wp2_with fail
    refine (within_s_yes N 1 32 _ ⟨h1, h32⟩).mono ?_
    rintro e w1 ⟨rfl, rfl⟩
    go_wp2_with fail
    refine (hmac_s k t _ hk ht).mono ?_
    rintro e w1 ⟨rfl, hb1⟩
    rw [← HD.out]
    go_wp2
    go_ret
    exact ⟨ret_str HE.out, hb1⟩
  · have e : cutL (hmacL k.data.toList t.data.toList) n = [] := by unfold cutL; rw [if_neg hin]
    rw [e]
    have HI := Lib.hid hin
    clear hin e
    go_enter Tryd.func45, Tryd.ntmps45
    go_wp2_with fail
    refine (within_s_no n 1 32 _ HI.out).mono ?_
    rintro e w1 ⟨rfl, rfl⟩
    go_wp2
    go_ret
    exact ⟨rfl, Below.refl _ _⟩
theorem tokenOf_s (s : ByteArray) (w : World) :
    Calls Tryd.prog 43 #[.string s] w fun e w' => e = .returned (.int .i64 (tokN s : Nat)) ∧ Below w.heap.size w w' := by
  cases hok : keyOkB s
  · rw [show tokN s = 0 by unfold tokN; rw [hok]; rfl]
    go_enter Tryd.func43, Tryd.ntmps43
    go_wp2_with (go_at_call 71; refine (keyOk_s _ _).mono ?_; rintro e w1 ⟨rfl, rfl⟩)
    go_ret
    exact ⟨rfl, Below.refl _ _⟩
  · rw [show tokN s = numAtN (str (digL s.data.toList)) 0 4 by unfold tokN; rw [hok]; rfl]
    have hs : Hid (s.size ≤ 10000000) := Lib.hid (by unfold keyOkB at hok; simp at hok; omega)
    obtain ⟨D, hD⟩ : ∃ D, D = str (digL s.data.toList) := ⟨_, rfl⟩
    rw [← hD]
    have s1 : Hid (D.size ≤ 9223372036854775807) := Lib.hid (by rw [hD, str_size, digL_len]; omega)
    have HD := Lib.hid hD
    clear hD
    go_enter Tryd.func43, Tryd.ntmps43
    go_wp2_with fail
    refine (keyOk_s _ _).mono ?_
    rintro e w1 ⟨rfl, rfl⟩
    go_wp2_with fail
    refine (digest_s s _ (by have := hs.out; omega)).mono ?_
    rintro e w1 ⟨rfl, hb1⟩
    rw [← HD.out]
    go_wp2_with fail
    refine (numAt_s D 0 4 _ s1.out).mono ?_
    rintro e w2 ⟨rfl, hb2⟩
    go_wp2
    go_ret
    exact ⟨rfl, hb1.trans (hb2.mono hb1.size)⟩
theorem startOf_s (s : ByteArray) (w : World) :
    Calls Tryd.prog 30 #[.string s] w fun e w' => e = .returned (.string (str (startL s))) ∧ Below w.heap.size w w' := by
  cases hok : keyOkB s
  · rw [show startL s = [] by unfold startL; rw [hok]; rfl]
    go_enter Tryd.func30, Tryd.ntmps30
    go_wp2_with (go_at_call 71; refine (keyOk_s _ _).mono ?_; rintro e w1 ⟨rfl, rfl⟩)
    go_ret
    exact ⟨rfl, Below.refl _ _⟩
  · rw [show startL s = (digL s.data.toList).drop 24 by unfold startL; rw [hok]; rfl]
    have hs : Hid (s.size ≤ 10000000) := Lib.hid (by unfold keyOkB at hok; simp at hok; omega)
    obtain ⟨D, hD⟩ : ∃ D, D = str (digL s.data.toList) := ⟨_, rfl⟩
    have s1 : D.size = 32 := by rw [hD, str_size, digL_len]
    have HE : Hid (D.extract 24 32 = str ((digL s.data.toList).drop 24)) := Lib.hid (by rw [hD, cut_str' _ _ _ (digL_len _).symm])
    have HD := Lib.hid hD
    clear hD
    go_enter Tryd.func30, Tryd.ntmps30
    go_wp2_with fail
    refine (keyOk_s _ _).mono ?_
    rintro e w1 ⟨rfl, rfl⟩
    go_wp2_with fail
    refine (digest_s s _ (by have := hs.out; omega)).mono ?_
    rintro e w1 ⟨rfl, hb1⟩
    rw [← HD.out]
    go_wp2
    go_ret
    exact ⟨ret_str HE.out, hb1⟩
theorem hmacOk_s (k t g : ByteArray) (w : World) (hk : k.size ≤ 10000000) (ht : t.size ≤ 10000000) :
    Calls Tryd.prog 41 #[.string k, .string t, .string g] w fun e w' => e = .returned (.bool ((str (hmacL k.data.toList t.data.toList)).toList == g.toList)) ∧ Below w.heap.size w w' := by
  obtain ⟨D, hD⟩ : ∃ D, D = str (hmacL k.data.toList t.data.toList) := ⟨_, rfl⟩
  rw [← hD]
  have HD := Lib.hid hD
  clear hD
  go_enter Tryd.func41, Tryd.ntmps41
  go_wp2_with fail
  refine (hmac_s k t _ hk ht).mono ?_
  rintro e w1 ⟨rfl, hb1⟩
  rw [← HD.out]
  go_wp2
  go_ret
  exact ⟨rfl, hb1⟩
theorem digestHex_s (s : ByteArray) (w : World) (hs : s.size ≤ 10000000) :
    Calls Tryd.prog 37 #[.string s] w fun e w' => e = .returned (.string (str (hexL (digL s.data.toList)))) ∧ Below w.heap.size w w' := by
  obtain ⟨D, hD⟩ : ∃ D, D = str (digL s.data.toList) := ⟨_, rfl⟩
  have hDl : D.data.toList = digL s.data.toList := by rw [hD, str_toList]
  have s1 : Hid (D.size ≤ 20000) := Lib.hid (by rw [hD, str_size, digL_len]; omega)
  rw [← hDl]
  have HD := Lib.hid hD
  clear hD hDl
  go_enter Tryd.func37, Tryd.ntmps37
  go_wp2_with fail
  refine (digest_s s _ (by omega)).mono ?_
  rintro e w1 ⟨rfl, hb1⟩
  rw [← HD.out]
  go_wp2_with fail
  refine (hex_s D _ s1.out).mono ?_
  rintro e w2 ⟨rfl, hb2⟩
  go_wp2
  go_ret
  exact ⟨rfl, hb1.trans (hb2.mono hb1.size)⟩
end Go.Proofs.YtmhekefjlepfpaaDoor

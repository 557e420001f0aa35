/- The walk of the law of segments: a right one comes back from its text, of another one nothing is told. The rows of the laws: each law returns true for every input, and each argument reads as before. -/
import Derived.Test.YtkgbkgonlopciaaGC
import Derived.Test.YtkgbkgonlopciaaK12
import Derived.Test.YtkgbkgonlopciaaA28
import Derived.Test.YtkgbkgonlopciaaA29
import Derived.Test.YtkgbkgonlopciaaA30
import Derived.Test.YtkgbkgonlopciaaA32
import Derived.Test.YtkgbkgonlopciaaA34
import Derived.Test.YtkgbkgonlopciaaP2
import Derived.Test.YtkgbkgonlopciaaM2
import Derived.Deep.Cut
import Derived.Deep.RegionHeld
import Derived.Test.YtkgbkgonlopciaaRows
import Derived.Test.YtkgbkgonlopciaaF
import Derived.Test.YtkgbkgonlopciaaF2
namespace Go.Proofs.Ytkgbkgonlopciaa
open Go.RowKit
set_option linter.unusedVariables false
set_option linter.unusedSimpArgs false
theorem flat_le : ∀ (os : List OD), (os.flatMap optL).length ≤ 42 * os.length
  | [] => by simp
  | o :: os => by
    have h1 := flat_le os
    have h2 := optL_len o
    rw [List.flatMap_cons, List.length_append, List.length_cons]
    omega
theorem segL_len {x : SD} (hx : segOk x = true) : 22 ≤ (segL x).length ∧ (segL x).length ≤ 1000 := by
  obtain ⟨h22, hn, B, hr, ht, hd, he, hB⟩ := seg_back hx (s := str (segL x)) (by rw [str_toList]; exact List.prefix_rfl)
  have h1 := (readN_some hr).2.1
  dsimp only at h1
  have h2 := flat_le x.ops
  have hx2 := hx
  unfold segOk at hx2
  simp only [Bool.and_eq_true, decide_eq_true_eq] at hx2
  obtain ⟨⟨⟨_, h4⟩, h5⟩, _⟩ := hx2
  omega
theorem readSI_nil : readSI ⟨#[]⟩ = none := by
  unfold readSI
  rw [if_neg (by decide)]
theorem cut_take (l : List UInt8) (n : Nat) (h : n ≤ l.length) : (str l).extract 0 n = str (l.take n) := by
  apply ByteArray.ext
  simp [str]
set_option maxRecDepth 100000 in
set_option maxHeartbeats 6400000 in
theorem segs_no (x : SD) (v : Value) (n : Nat) (xs : List Int) (w : World) (hv : Rd w 1 v n (xs.map (Value.int .u8))) (hz : ∀ x ∈ xs, (Lit.int .u8 x).wf = true) (hn : n ≤ 1048576) (hR : x = (segA xs (newS xs n)).1) (hok : segOk x = false) :
    Calls Try.prog 15 #[v] w fun e w' => e = .returned (.bool true) ∧ Below w.heap.size w w' := by
  have HV := Lib.hid hv
  have HZ := Lib.hid (u8_range hz)
  have HR := Lib.hid hR
  have HOK := Lib.hid hok
  have HL : Hid (str (segL x) = ⟨#[]⟩) := Lib.hid (by rw [segL_no hok, str_nil'])
  clear hv hz hR hok
  go_enter Try.func15, Try.ntmps15
  have HB : Hid (decide (1048576 < (n : Int)) = false) := Lib.hid (by simp; omega)
  go_wp2_with fail
  refine (big_l v n _ _ HV.out).mono ?_
  rw [HB.out]
  rintro e w0 ⟨rfl, rfl⟩
  go_wp2_with fail
  refine (drawSegText_u v n xs _ HV.out HZ.out hn).mono ?_
  rw [← HR.out]
  rintro e w1 ⟨ov, ivs, rfl, ho, hb, hwf, hid, hn6, hda⟩
  obtain ⟨k, hk⟩ : ∃ k, k = x.ops.length := ⟨_, rfl⟩
  rw [← hk] at ho hn6
  obtain ⟨A, cp, rfl, _⟩ := ho.rd.shape
  have O1 := Lib.hid ho.rd
  have L1 := Lib.hid hb
  have HWF := Lib.hid hwf
  have HNI : Hid (∀ o ∈ x.ops, o.ids.length ≤ 4294967296) := Lib.hid (fun o ho => Nat.le_trans (hid o ho).2 (by omega))
  have HKN : Hid (x.ops.length = k) := Lib.hid hk.symm
  clear ho hb hwf hid hk hda
  go_upto_region 4 with ((refine wpl_store_seg rfl (by rfl) (by rfl) (by rfl) ?_))
  obtain ⟨W2, hW⟩ : ∃ W, W = w1.alloc (.cells (vxC x (.slice A k cp)).toArray 37) := ⟨_, rfl⟩
  rw [← hW]
  obtain ⟨b2, hb⟩ : ∃ b, b = w1.heap.size := ⟨_, rfl⟩
  have X2 := Lib.hid (Bx.new w1 (vxC x (.slice A k cp)).toArray 37)
  have E := Lib.hid ((Below.refl w1.heap.size w1).alloc (Nat.le_refl _) (.cells (vxC x (.slice A k cp)).toArray 37))
  rw [← hW] at X2 E
  rw [← hb] at X2 ⊢
  have O2 := Lib.hid (O1.out.below E.out)
  have L2 := Lib.hid (L1.out.trans (E.out.mono L1.out.size))
  clear hW hb E O1 L1
  go_wp2_with (refine wpl_segI (q := x) rfl (by rfl) (by rfl) X2.out ?_)
  refine (segText_i x A k cp _ _ O2.out HWF.out HNI.out).mono ?_
  rw [HL.out]
  rintro e w3 ⟨rfl, hb⟩
  have O3 := Lib.hid (O2.out.below hb)
  have X3 := Lib.hid (X2.out.below hb)
  have L3 := Lib.hid (L2.out.trans (hb.mono L2.out.size))
  clear hb O2 X2 L2
  go_wp2_with (refine wpl_segI (q := x) rfl (by rfl) (by rfl) X3.out ?_)
  refine (segOk_s x A k cp _ _ O3.out HWF.out).mono ?_
  rw [HOK.out]
  rintro e w4 ⟨rfl, hb⟩
  have O4 := Lib.hid (O3.out.below hb)
  have X4 := Lib.hid (X3.out.below hb)
  have L4 := Lib.hid (L3.out.trans (hb.mono L3.out.size))
  clear hb O3 X3 L3
  go_wp2_with fail
  refine (readSeg_i ⟨#[]⟩ _ (by decide)).mono ?_
  rw [readSI_nil]
  rintro e w5 ⟨rfl, hb⟩
  have O5 := Lib.hid (O4.out.below hb)
  have X5 := Lib.hid (X4.out.below hb)
  have L5 := Lib.hid (L4.out.trans (hb.mono L4.out.size))
  clear hb O4 X4 L4
  go_upto_region 7 with ((refine wpl_store_seg rfl (by rfl) (by rfl) (by rfl) ?_))
  obtain ⟨W6, hW⟩ : ∃ W, W = w5.alloc (.cells (vxC noX (.slice none 0 0)).toArray 37) := ⟨_, rfl⟩
  rw [← hW]
  obtain ⟨b6, hb⟩ : ∃ b, b = w5.heap.size := ⟨_, rfl⟩
  have Y6 := Lib.hid (Bx.new w5 (vxC noX (.slice none 0 0)).toArray 37)
  have E := Lib.hid ((Below.refl w5.heap.size w5).alloc (Nat.le_refl _) (.cells (vxC noX (.slice none 0 0)).toArray 37))
  rw [← hW] at Y6 E
  rw [← hb] at Y6 ⊢
  have O6 := Lib.hid (O5.out.below E.out)
  have X6 := Lib.hid (X5.out.below E.out)
  have L6 := Lib.hid (L5.out.trans (E.out.mono L5.out.size))
  clear hW hb E O5 X5 L5
  go_wp2_with (first | (refine wpl_segG (q := x) (by simp [Region.wanted, yielded, Act.put]) (by rfl) (by rfl) X6.out ?_))
  refine (segOk_i x A k cp _ _ O6.out HWF.out HNI.out).mono ?_
  rw [HOK.out]
  rintro e w7 ⟨rfl, hb⟩
  have O7 := Lib.hid (O6.out.below hb)
  have X7 := Lib.hid (X6.out.below hb)
  have L7 := Lib.hid (L6.out.trans (hb.mono L6.out.size))
  clear hb O6 X6 L6
  go_wp2
  go_ret
  exact ⟨rfl, L7.out⟩
set_option maxRecDepth 100000 in
set_option maxHeartbeats 6400000 in
theorem segs_yes (x : SD) (v : Value) (n : Nat) (xs : List Int) (w : World) (hv : Rd w 1 v n (xs.map (Value.int .u8))) (hz : ∀ x ∈ xs, (Lit.int .u8 x).wf = true) (hn : n ≤ 1048576) (hR : x = (segA xs (newS xs n)).1) (hok : segOk x = true) :
    Calls Try.prog 15 #[v] w fun e w' => e = .returned (.bool true) ∧ Below w.heap.size w w' := by
  have HV := Lib.hid hv
  have HZ := Lib.hid (u8_range hz)
  have HR := Lib.hid hR
  have HOK := Lib.hid hok
  obtain ⟨S, hS⟩ : ∃ S, S = str (segL x) := ⟨_, rfl⟩
  obtain ⟨M, hM⟩ : ∃ M, M = str (segL x ++ [97]) := ⟨_, rfl⟩
  obtain ⟨T, hT⟩ : ∃ T, T = str ((segL x).take ((segL x).length - 1)) := ⟨_, rfl⟩
  have hl := segL_len hok
  have hsz : S.size = (segL x).length := by rw [hS, str_size]
  have HRS : Hid (readSI S = some x) := Lib.hid (readSI_back hok (by rw [hS, str_toList]))
  have HRM : Hid (readSI M = none) := Lib.hid (by rw [hM]; exact readSI_more hok 97)
  have HRT : Hid (readSI T = none) := Lib.hid (by rw [hT]; exact readSI_less hok)
  have HMS : Hid (S ++ ByteArray.mk #[97] = M) := Lib.hid (by rw [hS, hM]; exact str_add2 (segL x) [97])
  have HTS : Hid (S.extract 0 (S.size - 1) = T) := Lib.hid (by rw [hsz, hS, hT]; exact cut_take (segL x) _ (by omega))
  have HSS : Hid (22 ≤ S.size ∧ S.size ≤ 1000) := Lib.hid (by omega)
  have HMZ : Hid (M.size ≤ 1048576) := Lib.hid (by rw [hM, str_size, List.length_append, List.length_singleton]; omega)
  have HTZ : Hid (T.size ≤ 1048576) := Lib.hid (by rw [hT, str_size, List.length_take]; omega)
  have HS := Lib.hid hS
  clear hS hM hT hl hsz
  clear hv hz hR hok
  go_enter Try.func15, Try.ntmps15
  have HB : Hid (decide (1048576 < (n : Int)) = false) := Lib.hid (by simp; omega)
  go_wp2_with fail
  refine (big_l v n _ _ HV.out).mono ?_
  rw [HB.out]
  rintro e w0 ⟨rfl, rfl⟩
  go_wp2_with fail
  refine (drawSegText_u v n xs _ HV.out HZ.out hn).mono ?_
  rw [← HR.out]
  rintro e w1 ⟨ov, ivs, rfl, ho, hb, hwf, hid, hn6, hda⟩
  obtain ⟨k, hk⟩ : ∃ k, k = x.ops.length := ⟨_, rfl⟩
  rw [← hk] at ho hn6
  obtain ⟨A, cp, rfl, _⟩ := ho.rd.shape
  have O1 := Lib.hid ho.rd
  have L1 := Lib.hid hb
  have HWF := Lib.hid hwf
  have HNI : Hid (∀ o ∈ x.ops, o.ids.length ≤ 4294967296) := Lib.hid (fun o ho => Nat.le_trans (hid o ho).2 (by omega))
  have HKN : Hid (x.ops.length = k) := Lib.hid hk.symm
  clear ho hb hwf hid hk hda
  go_upto_region 4 with ((refine wpl_store_seg rfl (by rfl) (by rfl) (by rfl) ?_))
  obtain ⟨W2, hW⟩ : ∃ W, W = w1.alloc (.cells (vxC x (.slice A k cp)).toArray 37) := ⟨_, rfl⟩
  rw [← hW]
  obtain ⟨b2, hb⟩ : ∃ b, b = w1.heap.size := ⟨_, rfl⟩
  have X2 := Lib.hid (Bx.new w1 (vxC x (.slice A k cp)).toArray 37)
  have E := Lib.hid ((Below.refl w1.heap.size w1).alloc (Nat.le_refl _) (.cells (vxC x (.slice A k cp)).toArray 37))
  rw [← hW] at X2 E
  rw [← hb] at X2 ⊢
  have O2 := Lib.hid (O1.out.below E.out)
  have L2 := Lib.hid (L1.out.trans (E.out.mono L1.out.size))
  clear hW hb E O1 L1
  go_wp2_with (refine wpl_segI (q := x) rfl (by rfl) (by rfl) X2.out ?_)
  refine (segText_i x A k cp _ _ O2.out HWF.out HNI.out).mono ?_
  rw [← HS.out]
  rintro e w3 ⟨rfl, hb⟩
  have O3 := Lib.hid (O2.out.below hb)
  have X3 := Lib.hid (X2.out.below hb)
  have L3 := Lib.hid (L2.out.trans (hb.mono L2.out.size))
  clear hb O2 X2 L2
  go_wp2_with (refine wpl_segI (q := x) rfl (by rfl) (by rfl) X3.out ?_)
  refine (segOk_s x A k cp _ _ O3.out HWF.out).mono ?_
  rw [HOK.out]
  rintro e w4 ⟨rfl, hb⟩
  have O4 := Lib.hid (O3.out.below hb)
  have X4 := Lib.hid (X3.out.below hb)
  have L4 := Lib.hid (L3.out.trans (hb.mono L3.out.size))
  clear hb O3 X3 L3
  go_wp2_with fail
  refine (readSeg_i S _ (by have := HSS.out; omega)).mono ?_
  rw [HRS.out]
  rintro e w5 ⟨jv, jvs, rfl, ho, _, _, _, hb⟩
  rw [HKN.out] at ho
  obtain ⟨A5, cp5, rfl, _⟩ := ho.rd.shape
  have P5 := Lib.hid ho.rd
  clear ho
  have O5 := Lib.hid (O4.out.below hb)
  have X5 := Lib.hid (X4.out.below hb)
  have L5 := Lib.hid (L4.out.trans (hb.mono L4.out.size))
  clear hb O4 X4 L4
  go_upto_region 9 with ((refine wpl_store_seg rfl (by rfl) (by rfl) (by rfl) ?_))
  obtain ⟨W6, hW⟩ : ∃ W, W = w5.alloc (.cells (vxC x (.slice A5 k cp5)).toArray 37) := ⟨_, rfl⟩
  rw [← hW]
  obtain ⟨b6, hb⟩ : ∃ b, b = w5.heap.size := ⟨_, rfl⟩
  have Y6 := Lib.hid (Bx.new w5 (vxC x (.slice A5 k cp5)).toArray 37)
  have E := Lib.hid ((Below.refl w5.heap.size w5).alloc (Nat.le_refl _) (.cells (vxC x (.slice A5 k cp5)).toArray 37))
  rw [← hW] at Y6 E
  rw [← hb] at Y6 ⊢
  have O6 := Lib.hid (O5.out.below E.out)
  have X6 := Lib.hid (X5.out.below E.out)
  have P6 := Lib.hid (P5.out.below E.out)
  have L6 := Lib.hid (L5.out.trans (E.out.mono L5.out.size))
  clear hW hb E O5 X5 P5 L5
  have hs1 : ¬ (9223372036854775807 < S.size + (ByteArray.mk #[97]).size) := by have := HSS.out; show ¬ (9223372036854775807 < S.size + 1); omega
  have hx1 : S ++ ByteArray.mk #[97] = M := HMS.out
  go_wp2_with fail
  refine (readSeg_i M _ HMZ.out).mono ?_
  rw [HRM.out]
  rintro e w7 ⟨rfl, hb⟩
  clear hs1 hx1
  have O7 := Lib.hid (O6.out.below hb)
  have X7 := Lib.hid (X6.out.below hb)
  have P7 := Lib.hid (P6.out.below hb)
  have Y7 := Lib.hid (Y6.out.below hb)
  have L7 := Lib.hid (L6.out.trans (hb.mono L6.out.size))
  clear hb O6 X6 P6 Y6 L6
  go_upto_region 10 with ((refine wpl_store_seg rfl (by rfl) (by rfl) (by rfl) ?_))
  obtain ⟨W8, hW⟩ : ∃ W, W = w7.alloc (.cells (vxC noX (.slice none 0 0)).toArray 37) := ⟨_, rfl⟩
  rw [← hW]
  obtain ⟨b8, hb⟩ : ∃ b, b = w7.heap.size := ⟨_, rfl⟩
  have U8 := Lib.hid (Bx.new w7 (vxC noX (.slice none 0 0)).toArray 37)
  have E := Lib.hid ((Below.refl w7.heap.size w7).alloc (Nat.le_refl _) (.cells (vxC noX (.slice none 0 0)).toArray 37))
  rw [← hW] at U8 E
  rw [← hb] at U8 ⊢
  have O8 := Lib.hid (O7.out.below E.out)
  have X8 := Lib.hid (X7.out.below E.out)
  have P8 := Lib.hid (P7.out.below E.out)
  have Y8 := Lib.hid (Y7.out.below E.out)
  have L8 := Lib.hid (L7.out.trans (E.out.mono L7.out.size))
  clear hW hb E O7 X7 P7 Y7 L7
  have hss := HSS.out
  have t1 : ((S.size : Int) - 1).toNat = S.size - 1 := by omega
  have t2 : (0 : Int) ≤ (S.size : Int) - 1 := by omega
  have t3 : (S.size : Int) - 1 ≤ (S.size : Int) := by omega
  have t4 : S.extract 0 (S.size - 1) = T := HTS.out
  obtain ⟨hs22, hs1000⟩ := hss
  go_wp2_with fail
  refine (readSeg_i T _ HTZ.out).mono ?_
  rw [HRT.out]
  rintro e w9 ⟨rfl, hb⟩
  clear t1 t2 t3 t4 hs22 hs1000
  have O9 := Lib.hid (O8.out.below hb)
  have X9 := Lib.hid (X8.out.below hb)
  have P9 := Lib.hid (P8.out.below hb)
  have Y9 := Lib.hid (Y8.out.below hb)
  have L9 := Lib.hid (L8.out.trans (hb.mono L8.out.size))
  clear hb O8 X8 P8 Y8 L8
  go_upto_region 11 with ((refine wpl_store_seg rfl (by rfl) (by rfl) (by rfl) ?_))
  obtain ⟨W10, hW⟩ : ∃ W, W = w9.alloc (.cells (vxC noX (.slice none 0 0)).toArray 37) := ⟨_, rfl⟩
  rw [← hW]
  obtain ⟨b10, hb⟩ : ∃ b, b = w9.heap.size := ⟨_, rfl⟩
  have V10 := Lib.hid (Bx.new w9 (vxC noX (.slice none 0 0)).toArray 37)
  have E := Lib.hid ((Below.refl w9.heap.size w9).alloc (Nat.le_refl _) (.cells (vxC noX (.slice none 0 0)).toArray 37))
  rw [← hW] at V10 E
  rw [← hb] at V10 ⊢
  have O10 := Lib.hid (O9.out.below E.out)
  have X10 := Lib.hid (X9.out.below E.out)
  have P10 := Lib.hid (P9.out.below E.out)
  have Y10 := Lib.hid (Y9.out.below E.out)
  have L10 := Lib.hid (L9.out.trans (E.out.mono L9.out.size))
  clear hW hb E O9 X9 P9 Y9 L9
  go_wp2_with (first | (refine wpl_segG (q := x) (by simp [Region.wanted, yielded, Act.put]) (by rfl) (by rfl) X10.out ?_) | (refine wpl_segG (q := x) (by simp [Region.wanted, yielded, Act.put]) (by rfl) (by rfl) Y10.out ?_))
  refine (sameSeg_l x A5 A k cp5 cp _ _ _ P10.out O10.out).mono ?_
  rintro e w11 ⟨rfl, hb⟩
  have O11 := Lib.hid (O10.out.below hb)
  have X11 := Lib.hid (X10.out.below hb)
  have P11 := Lib.hid (P10.out.below hb)
  have Y11 := Lib.hid (Y10.out.below hb)
  have L11 := Lib.hid (L10.out.trans (hb.mono L10.out.size))
  clear hb O10 X10 P10 Y10 L10
  go_wp2_with (first | (refine wpl_segG (q := x) (by simp [Region.wanted, yielded, Act.put]) (by rfl) (by rfl) X11.out ?_) | (refine wpl_segG (q := x) (by simp [Region.wanted, yielded, Act.put]) (by rfl) (by rfl) Y11.out ?_))
  refine (sameSeg_i x x A5 A k k cp5 cp _ _ _ P11.out O11.out).mono ?_
  rintro e w12 ⟨r, rfl, hr, hb⟩
  obtain rfl : r = true := hr.2 rfl
  have L12 := Lib.hid (L11.out.trans (hb.mono L11.out.size))
  clear hb hr
  go_wp2
  go_ret
  exact ⟨rfl, L12.out⟩
theorem law_FnSegs (v : Value) (n : Nat) (xs : List Int) (w : World) (hv : Rd w 1 v n (xs.map (Value.int .u8))) (hz : ∀ x ∈ xs, (Lit.int .u8 x).wf = true) :
    Calls Try.prog 15 #[v] w fun e w' => e = .returned (.bool true) ∧ Below w.heap.size w w' := by
  by_cases hb : 1048576 < n
  · have HV := Lib.hid hv
    have HB : Hid (decide (1048576 < (n : Int)) = true) := Lib.hid (by simp; omega)
    clear hv hz hb
    go_enter Try.func15, Try.ntmps15
    go_wp2_with fail
    refine (big_l v n _ _ HV.out).mono ?_
    rw [HB.out]
    rintro e w0 ⟨rfl, rfl⟩
    go_wp2
    go_ret
    exact ⟨rfl, Below.refl _ _⟩
  · cases hok : segOk (segA xs (newS xs n)).1
    · exact segs_no _ v n xs w hv hz (by omega) rfl hok
    · exact segs_yes _ v n xs w hv hz (by omega) rfl hok
end Go.Proofs.Ytkgbkgonlopciaa

namespace Go.Proofs.Ytkgbkgonlopciaa
open Go.ChangeShapes Go.WideShapes Go.ChangeAt Go.RowKit
open Go.ChangeMaps (open_string shut_string)
set_option linter.unusedVariables false
set_option linter.unusedSimpArgs false

theorem own : ownKnob Try.prog.godebug = none := by kernel_rfl
theorem laid_out : laidOutB Try.prog = true := by kernel_rfl
theorem rd_s : Try.prog.readableRec 9 = true ∧ 9 < Try.prog.types.size := ⟨by kernel_rfl, of_decide_eq_true (by kernel_rfl)⟩
theorem rd_i : Try.prog.readableRec 3 = true ∧ 3 < Try.prog.types.size := ⟨by kernel_rfl, of_decide_eq_true (by kernel_rfl)⟩
theorem rd_B : Try.prog.readableRec 40 = true ∧ 40 < Try.prog.types.size := ⟨by kernel_rfl, of_decide_eq_true (by kernel_rfl)⟩
theorem cells_u8 : Try.prog.cellsOf 5 = 1 := by kernel_rfl

set_option maxRecDepth 100000 in
theorem lifted_FnSegs (walk : ∀ (v0 : Value) (n0 : Nat) (x0 : List Int) (W : World) (w0 : Rd W 1 v0 n0 (x0.map (Value.int .u8))) (z0 : ∀ x ∈ x0, (Lit.int .u8 x).wf = true), Calls Try.prog 15 #[v0] W fun e w' => e = .returned (.bool true) ∧ Below W.heap.size W w') (os : Os) (started : os.Started) (H : Type) (enc : TypeId × Value → H) :
    ReturnsInHanded {} Try.checked os 15 .any (Rows.fnSegsSpec.pre6 enc Try.prog Try.f15 Rows.fnSegsRow.domain false) (Rows.fnSegsSpec.post enc Try.prog Try.f15 false true false false) := by
  refine returnsInHanded_of_change (C := Try.checked) own started (by kernel_rfl) Try.func15
    (ChangeSpec.witness6 (enc := enc) (C := Try.checked) false ⟨#[], #[.slice none 0 0], []⟩ 8 (by kernel_rfl) (by kernel_rfl) (by kernel_rfl) (by kernel_rfl)) ?_
  intro W base args ds gs before hval0 hW hcnd _
  have hval : ∀ (j : Nat) t v, Try.f15.params[j]? = some t → args[j]? = some v → Value.okWide Try.prog W .any base t v := hval0
  have hW' := hW
  obtain ⟨p, q, hA0, hV, rfl, hfz, hnd⟩ := hW
  have hA : DataW.TrodAll enc Try.prog W 0 (fun _ => true) true Try.f15.params.toList args.toList ds p := hA0
  rw [Try.params15] at hA hval
  obtain ⟨v0, vs0, d0, ds0, p0, q0, hargs, rfl, rfl, h0, r0⟩ := trodAll_cons hA
  obtain ⟨rfl, rfl, rfl⟩ := trodAll_nil r0
  obtain rfl : args = #[v0] := by cases args; simp_all
  obtain ⟨rfl, rfl⟩ := trodVars_none hV
  obtain ⟨n0, x0, w0, z0⟩ := rd_ints Try.underlying40 Try.underlying5 cells_u8 (hval 0 40 v0 rfl rfl) h0
  clear hA0 hval0
  refine (walk v0 n0 x0 W w0 z0).mono fun e W' ⟨he, hg⟩ => ?_
  subst he
  exact ⟨_, rfl, law_post (P := Try.prog) Try.underlying4 rfl rfl laid_out (by rw [Try.params15]; exact List.forall_mem_cons.2 ⟨rd_B, List.forall_mem_nil _⟩) hW' rfl rfl rfl hg⟩

theorem over_FnSegs (walk : ∀ (v0 : Value) (n0 : Nat) (x0 : List Int) (W : World) (w0 : Rd W 1 v0 n0 (x0.map (Value.int .u8))) (z0 : ∀ x ∈ x0, (Lit.int .u8 x).wf = true), Calls Try.prog 15 #[v0] W fun e w' => e = .returned (.bool true) ∧ Below W.heap.size W w') : Rows.FnSegsSaid :=
  OpenClaim.holds_of_wide 15 Try.f15 rfl rfl rfl rfl rfl rfl rfl ⟨rfl, rfl, rfl, rfl, rfl⟩ rfl rfl rfl rfl rfl (by kernel_rfl) Try.func15 (by kernel_rfl)
    (of_decide_eq_true (by kernel_rfl)) (by unfold Func.isWrapper; first | (rw [if_pos (by decide +kernel)]; kernel_rfl) | (rw [if_neg (by decide +kernel)]; exact ⟨rfl, rfl⟩))
    (fun os started H enc _ => lifted_FnSegs walk os started H enc)

theorem FnSegs_holds : Rows.FnSegsSaid := over_FnSegs law_FnSegs
#print axioms FnSegs_holds

end Go.Proofs.Ytkgbkgonlopciaa

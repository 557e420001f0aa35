/- The walk of OptText of the program. -/
import Derived.Test.YtkgbkgonlopciaaA16
import Derived.Test.YtkgbkgonlopciaaA20
import Derived.Deep.Cut
import Derived.Outline
import Derived.Deep.QuietTactic
import Derived.BigQuiet
import Derived.Deep.RegionHeld
namespace Go.Proofs.Ytkgbkgonlopciaa
open Go.RowKit
set_option linter.unusedVariables false
set_option linter.unusedSimpArgs false
theorem str_app (a b : List UInt8) : str a ++ str b = str (a ++ b) := by
  apply ByteArray.ext
  simp [str, ByteArray.data_append]
theorem app_size (a b : ByteArray) : (a ++ b).size = a.size + b.size := by simp [ByteArray.size_append]
/-- the text of the first j numbers; of the first j fields -/
def bodyI (o : OD) (j : Nat) : List UInt8 := (o.ids.take j).flatMap fun n => numTextL n 1
def bodyF (o : OD) (j : Nat) : List UInt8 := ((lay o.k).take j).flatMap (fieldL o)
theorem bodyI_step {o : OD} {j : Nat} (h : j < o.ids.length) : bodyI o (j + 1) = bodyI o j ++ numTextL (o.ids.getD j 0) 1 := by
  unfold bodyI
  rw [List.take_succ_eq_append_getElem h, List.flatMap_append, List.getD_eq_getElem?_getD, List.getElem?_eq_getElem h]
  simp
theorem bodyF_step {o : OD} {j : Nat} (h : j < (lay o.k).length) : bodyF o (j + 1) = bodyF o j ++ fieldL o ((lay o.k)[j]'h) := by
  unfold bodyF
  rw [List.take_succ_eq_append_getElem h, List.flatMap_append]
  simp
theorem body_full {o : OD} : bodyI o o.ids.length ++ bodyF o (lay o.k).length = bodyL o := by
  unfold bodyI bodyF bodyL
  rw [List.take_length, List.take_length]
theorem flat_take_len {α β : Type} (l : List α) (f : α → List β) (j : Nat) : ((l.take j).flatMap f).length ≤ (l.flatMap f).length := by
  conv => rhs; rw [← List.take_append_drop j l, List.flatMap_append, List.length_append]
  omega
theorem bodyI_len {o : OD} (h : optOk o = true) (j : Nat) : (bodyI o j).length ≤ 40 := by
  have h1 := bodyL_len h
  have h2 := flat_take_len o.ids (fun n => numTextL n 1) j
  unfold bodyL at h1
  rw [List.length_append] at h1
  unfold bodyI
  omega
theorem bodyF_len {o : OD} (h : optOk o = true) (j : Nat) : (bodyF o j).length ≤ 40 := by
  have h1 := bodyL_len h
  have h2 := flat_take_len (lay o.k) (fieldL o) j
  unfold bodyL at h1
  rw [List.length_append] at h1
  unfold bodyF
  omega
theorem wf_id {o : OD} (h : o.wf) (j : Nat) : o.ids.getD j 0 ≤ 9223372036854775807 := by
  by_cases hj : j < o.ids.length
  · have := h.2.2 (o.ids.getD j 0) (by rw [List.getD_eq_getElem?_getD, List.getElem?_eq_getElem hj]; exact List.getElem_mem hj)
    unfold i64R at this
    omega
  · rw [List.getD_eq_getElem?_getD, List.getElem?_eq_none (by omega)]
    simp
theorem nt_len_le (n wd : Int) (h : 0 ≤ wd) : ((numTextL n wd).length : Int) ≤ wd := by
  cases e : numTextB n wd
  · rw [numTextL_no e]; simpa using h
  · rw [numTextL_len e]; omega
theorem optOk_kR {o : OD} (h : optOk o = true) : 1 ≤ o.k ∧ o.k ≤ 10 := by
  by_cases e : 1 ≤ o.k ∧ o.k ≤ 10
  · exact e
  · rw [optOk_k e] at h; cases h
theorem optL_yes {o : OD} (h : optOk o = true) : optL o = (numTextL o.k 1 ++ numTextL (bodyL o).length 1) ++ bodyL o := by
  unfold optL; rw [if_pos h, List.append_assoc]
theorem optL_no {o : OD} (h : optOk o = false) : optL o = [] := by
  unfold optL; rw [h]; rfl
theorem ok_field_txt {o : OD} (h : optOk o = true) {j : Nat} (hj : j < (lay o.k).length) (hi : ((lay o.k)[j]'hj).1 = 11 ∨ ((lay o.k)[j]'hj).1 = 12) : (o.txt ((lay o.k)[j]'hj).1).size ≤ 20 := by
  unfold optOk at h
  simp only [Bool.and_eq_true] at h
  have h1 := List.all_eq_true.1 h.2 _ (List.getElem_mem hj)
  have h2 := (lay_ok o.k _ (List.getElem_mem hj)).2.2.2.2
  unfold fieldOk at h1
  rw [if_neg (by omega), if_pos hi, decide_eq_true_eq] at h1
  omega
theorem bit_i (b : Bool) (w : World) : Calls Try.prog 83 #[.bool b] w fun e w' => e = .returned (.int .i64 (if b then 1 else 0)) ∧ w = w' := by
  cases b
  all_goals
    go_enter Try.func83, Try.ntmps83
    go_wp2
    go_ret
    exact ⟨rfl, rfl⟩
set_option maxRecDepth 100000 in
set_option maxHeartbeats 6400000 in
theorem optText_i (o : OD) (A : Option Addr) (n cp : Nat) (w : World) (h : Rd w 1 (.slice A n cp) n (o.ids.map vn)) (hn : n ≤ 4294967296) (hwf : o.wf) :
    Calls Try.prog 38 #[vo o (.slice A n cp)] w fun e w' => e = .returned (.string (str (optL o))) ∧ Below w.heap.size w w' := by
  have HNX := Lib.hid (rd_ids h)
  have H := Lib.hid h
  have HWF := Lib.hid hwf
  clear h hwf
  obtain ⟨R, hR⟩ : ∃ R, R = str (optL o) := ⟨_, rfl⟩
  rw [← hR]
  have HR := Lib.hid hR
  clear hR
  go_enter Try.func38, Try.ntmps38
  go_upto_region 1 with (fail)
  obtain ⟨W, hW⟩ : ∃ W, W = w.alloc (.cells (voC o (.slice A n cp)).toArray 27) := ⟨_, rfl⟩
  change Code.wp _ _ _ _ (w.alloc (.cells (voC o (.slice A n cp)).toArray 27))
  rw [← hW]
  have L0 := Lib.hid ((Below.refl w.heap.size w).alloc (Nat.le_refl _) (.cells (voC o (.slice A n cp)).toArray 27))
  have X1 := Lib.hid (Bx.new w (voC o (.slice A n cp)).toArray 27)
  rw [← hW] at L0 X1
  clear hW
  have HW := Lib.hid (H.out.below L0.out)
  go_wp2_with (refine wpl_opt rfl (by rfl) (by rfl) X1.out ?_)
  refine (optOk_i o A n cp _ HW.out hn HWF.out).mono ?_
  rintro e w2 ⟨rfl, hb2⟩
  have L2 := Lib.hid (L0.out.trans (hb2.mono L0.out.size))
  have X2 := Lib.hid (X1.out.below hb2)
  clear hb2 X1 HW L0
  obtain ⟨b, hb⟩ : ∃ b, b = optOk o := ⟨_, rfl⟩
  rw [← hb]
  have HB := Lib.hid hb
  clear hb
  cases b
  case false =>
    have HE : Hid (R = str []) := Lib.hid (by rw [HR.out, optL_no HB.out.symm])
    go_wp2
    go_ret
    exact ⟨ret_str (by rw [HE.out]; rfl), L2.out⟩
  have HOK : Hid (optOk o = true) := Lib.hid HB.out.symm
  clear HB
  have hn8 : n ≤ 40 := by
    have := bodyI_len HOK.out n
    have h2 := HNX.out
    have h3 := HOK.out
    unfold optOk at h3
    simp only [Bool.and_eq_true, decide_eq_true_eq] at h3
    obtain ⟨⟨⟨⟨h1, h10⟩, hs⟩, hi⟩, hf⟩ := h3
    by_cases h8 : o.k = 8
    · have : idsOk o.ids = true := by simpa [h8] using hi
      unfold idsOk at this
      simp only [Bool.and_eq_true, decide_eq_true_eq] at this
      omega
    · have : o.ids = [] := by rw [(sameOD_iff _ _).1 hs, used_ids h8]
      rw [this] at h2
      simp at h2
      omega
  have x13 : w2.cell? ⟨w.heap.size, 13, none⟩ = some (.slice A n cp) := X2.out.2 13 _ rfl
  go_wp2
  go_loopw [3, 14] (fun b i wr => ∃ (j : Nat) (X : ByteArray), j ≤ n ∧ i = .int .i64 (j : Int) ∧ b = .string X ∧ X.size ≤ 40 ∧ Hid (X = str (bodyI o j)) ∧ Hid (Bx wr w.heap.size (voC o (.slice A n cp))) ∧ Hid (Below w.heap.size w wr)) (fun _ i _ => n - (intOf i).toNat)
  case atStart => exact ⟨0, ⟨#[]⟩, Nat.zero_le _, rfl, rfl, by decide, Lib.hid rfl, X2, L2⟩
  case round =>
    clear X2 L2 x13
    obtain ⟨j, X, hj, rfl, rfl, hX, HX, V1, LW⟩ := hrel
    by_cases hlt : j < n
    · obtain ⟨b1, o1, _, he, _, _, _⟩ := H.out.full (by omega)
      simp only [Value.slice.injEq] at he
      obtain ⟨rfl, _, rfl⟩ := he
      obtain ⟨_, p1⟩ := (H.out.below LW.out).at1 hlt
      have hid := wf_id HWF.out j
      have hsz := bodyI_len HOK.out (j + 1)
      have hstep := bodyI_step (o := o) (j := j) (by have := HNX.out; omega)
      obtain ⟨x, hx⟩ : ∃ x, x = o.ids.getD j 0 := ⟨_, rfl⟩
      rw [← hx] at p1 hid hstep
      obtain ⟨Y, hY⟩ : ∃ Y, Y = str (numTextL x 1) := ⟨_, rfl⟩
      have hYs : Y.size ≤ 1 := by rw [hY, str_size]; have := nt_len_le x 1 (by omega); omega
      have HXY : Hid (X ++ Y = str (bodyI o (j + 1))) := Lib.hid (by rw [HX.out, hY, str_app, ← hstep])
      have hXYs : (X ++ Y).size ≤ 40 := by rw [HXY.out, str_size]; exact hsz
      have HY := Lib.hid hY
      clear hx hY hstep hsz
      go_wp2_with fail
      refine (numText_i x 1 _ hid).mono ?_
      rw [← HY.out]
      rintro e w5 ⟨rfl, hb5⟩
      have L5 := Lib.hid (LW.out.trans (hb5.mono LW.out.size))
      have V5 := Lib.hid (V1.out.below hb5)
      clear hb5 p1
      go_wp2
      go_roundw
      case rel => exact ⟨j + 1, X ++ Y, by omega, by go_num, rfl, hXYs, HXY, V5, L5⟩
      case measure => (simp [intOf]; try omega)
    · obtain rfl : j = n := by omega
      have x0 : wr.cell? ⟨w.heap.size, 0, none⟩ = some (.int .i64 o.k) := V1.out.2 0 _ rfl
      have HXI := Lib.hid HX.out
      go_wp2_with fail
      refine (layoutOf_i o.k _).mono ?_
      rintro e w4 ⟨v4, rfl, ho4, hb4⟩
      have O4 := Lib.hid ho4
      have V4 := Lib.hid (V1.out.below hb4)
      have L4 := Lib.hid (LW.out.trans (hb4.mono LW.out.size))
      obtain ⟨A4, c4, rfl⟩ := ho4.shape
      obtain ⟨m, hm⟩ : ∃ m, m = (lay o.k).length := ⟨_, rfl⟩
      have hm4 : m ≤ 4 := by
        rw [hm]; unfold lay
        repeat' split
        all_goals simp
      rw [← hm] at O4 ⊢
      have HMM := Lib.hid hm
      obtain ⟨B0, hB0⟩ : ∃ B, B = wr.heap.size := ⟨_, rfl⟩
      rw [← hB0] at O4
      clear ho4 hb4 x0 hm V1 LW hB0 HX
      obtain ⟨wo, rfl⟩ : ∃ wo : World, wo = wr := ⟨_, rfl⟩
      go_wp2
      go_loopw [3, 27] (fun b i wr => ∃ (j2 : Nat) (X : ByteArray), j2 ≤ m ∧ i = .int .i64 (j2 : Int) ∧ b = .string X ∧ X.size ≤ 80 ∧ Hid (X = str (bodyI o j ++ bodyF o j2)) ∧ Hid (Bx wr w.heap.size (voC o (.slice A j cp))) ∧ Hid (Below w.heap.size w wr) ∧ Hid (Obs wr B0 2 (.slice A4 m c4) m (fsC (lay o.k)))) (fun _ i _ => m - (intOf i).toNat)
      case atStart => exact ⟨0, X, Nat.zero_le _, rfl, rfl, by omega, Lib.hid (by rw [HXI.out]; simp [bodyF]), V4, L4, O4⟩
      case round =>
        clear V4 L4 O4 HXI hX
        obtain ⟨j2, X, hj, rfl, rfl, hX, HX, V1, LW, O4⟩ := hrel
        by_cases hlt : j2 < m
        case neg =>
          obtain rfl : j2 = m := by omega
          have x0 : wr.cell? ⟨w.heap.size, 0, none⟩ = some (.int .i64 o.k) := V1.out.2 0 _ rfl
          have HBL : Hid (X = str (bodyL o)) := Lib.hid (by rw [HX.out, HMM.out, HNX.out, body_full])
          have hkR := optOk_kR HOK.out
          obtain ⟨Y1, hY1⟩ : ∃ Y, Y = str (numTextL o.k 1) := ⟨_, rfl⟩
          obtain ⟨Y2, hY2⟩ : ∃ Y, Y = str (numTextL (X.size : Int) 1) := ⟨_, rfl⟩
          have hs1 : Y1.size ≤ 1 := by rw [hY1, str_size]; have := nt_len_le o.k 1 (by omega); omega
          have hs2 : Y2.size ≤ 1 := by rw [hY2, str_size]; have := nt_len_le (X.size : Int) 1 (by omega); omega
          have HE : Hid (R = Y1 ++ Y2 ++ X) := Lib.hid (by
            have e : X.size = (bodyL o).length := by rw [HBL.out, str_size]
            rw [HR.out, optL_yes HOK.out, ← str_app, ← str_app, hY1, hY2, e, ← HBL.out])
          have HY1 := Lib.hid hY1
          have HY2 := Lib.hid hY2
          have hs3 : (Y1 ++ Y2).size ≤ 2 := by rw [app_size]; omega
          have HNL : Hid ((X.size : Int) ≤ 9223372036854775807) := Lib.hid (by omega)
          clear hY1 hY2
          go_wp2_with fail
          refine (numText_i o.k 1 _ (by omega)).mono ?_
          rw [← HY1.out]
          rintro e w5 ⟨rfl, hb5⟩
          have L5 := Lib.hid (LW.out.trans (hb5.mono LW.out.size))
          clear hb5 x0
          go_wp2_with fail
          refine (numText_i (X.size : Int) 1 _ HNL.out).mono ?_
          rw [← HY2.out]
          rintro e w6 ⟨rfl, hb6⟩
          have L6 := Lib.hid (L5.out.trans (hb6.mono L5.out.size))
          clear hb6
          go_wp2
          go_ret
          exact ⟨ret_str (by rw [HE.out]), L6.out⟩
        have hfl : j2 < (lay o.k).length := by have := HMM.out; omega
        obtain ⟨i1, i12, w1, w20⟩ := lay_at hfl
        obtain ⟨f0, f1⟩ := fsC_at hfl
        have HST := Lib.hid (bodyF_step hfl)
        have htz := ok_field_txt HOK.out hfl
        have hflag : ((lay o.k)[j2]'hfl).1 = 10 → ((lay o.k)[j2]'hfl).2 = 1 := (lay_ok o.k _ (List.getElem_mem hfl)).2.1
        have hFL := bodyF_len HOK.out (j2 + 1)
        have hIL := bodyI_len HOK.out j
        obtain ⟨⟨i, m2⟩, hf⟩ : ∃ f, f = (lay o.k)[j2]'hfl := ⟨_, rfl⟩
        rw [← hf] at i1 i12 w1 w20 f0 f1 HST htz hflag
        dsimp only at i1 i12 w1 w20 f0 f1 htz hflag
        clear hf hfl
        obtain ⟨g4, cc4, he⟩ := O4.out.full (by omega)
        simp only [Value.slice.injEq] at he
        obtain ⟨rfl, _, rfl⟩ := he
        have p0 := (O4.out.cellAt f0).1
        have p1 := (O4.out.cellAt f1).1
        clear f0 f1
        have HIL := Lib.hid hIL
        have HFLn := Lib.hid hFL
        have HTZ := Lib.hid htz
        have HFG := Lib.hid hflag
        clear hFL hIL htz hflag
        go_upto_region 13 with (fail)
        obtain ⟨W2, hW2⟩ : ∃ W2, W2 = wr.alloc (.cells #[.string (nm i), .int .i64 (m2 : Int)] 88) := ⟨_, rfl⟩
        rw [← hW2]
        have Z1 : Hid (Bx W2 w.heap.size (voC o (.slice A j cp))) := Lib.hid (by rw [hW2]; exact V1.out.alloc _)
        have LZ : Hid (Below w.heap.size w W2) := Lib.hid (by rw [hW2]; exact LW.out.alloc LW.out.size _)
        have OZ : Hid (Obs W2 B0 2 (.slice (some ⟨g4, 0, none⟩) m c4) m (fsC (lay o.k))) := Lib.hid (by rw [hW2]; exact O4.out.alloc _)
        have n0 : W2.cell? ⟨wr.heap.size, 0, none⟩ = some (.string (nm i)) := by rw [hW2]; exact (Blk.new wr 88 #[.string (nm i), .int .i64 (m2 : Int)]).cell 0
        have n1 : W2.cell? ⟨wr.heap.size, 1, none⟩ = some (.int .i64 (m2 : Int)) := by rw [hW2]; exact (Blk.new wr 88 #[.string (nm i), .int .i64 (m2 : Int)]).cell 1
        have gws : wr.heap.size < W2.heap.size := by rw [hW2]; simp
        have gw0 := Z1.out.1
        clear hW2 p0 p1 V1 LW O4
        by_cases c10 : i = 10
        · subst c10
          have q1 : ((nm 10).toList == [102, 108, 97, 103]) = true := by rw [ByteArray.toList_eq]; decide
          have x10 : W2.cell? ⟨w.heap.size, 10, none⟩ = some (.bool o.fl) := Z1.out.2 10 _ rfl
          obtain ⟨fb, hfb⟩ : ∃ fb : Int, fb = (if o.fl then 1 else 0) := ⟨_, rfl⟩
          have hfb0 : 0 ≤ fb ∧ fb ≤ 1 := by rw [hfb]; split <;> omega
          obtain ⟨Y, hY⟩ : ∃ Y, Y = str (numTextL fb 1) := ⟨_, rfl⟩
          have HXY : Hid (X ++ Y = str (bodyI o j ++ bodyF o (j2 + 1))) := Lib.hid (by
            rw [HX.out, hY, str_app, HST.out, hfb]
            have e : fieldL o (10, m2) = numTextL (if o.fl then 1 else 0) 1 := by
              unfold fieldL
              rw [if_neg (by simp), HFG.out rfl]
              rfl
            rw [e, List.append_assoc])
          have hYs : Y.size ≤ 1 := by rw [hY, str_size]; have := nt_len_le fb 1 (by omega); omega
          have hXYs : (X ++ Y).size ≤ 80 := by rw [HXY.out, str_size, List.length_append]; have := HIL.out; have := HFLn.out; omega
          have HY := Lib.hid hY
          have HFB := Lib.hid hfb
          clear hY HST hfb
          go_wp2_with fail
          refine (bit_i o.fl _).mono ?_
          rw [← HFB.out]
          rintro e w5 ⟨rfl, rfl⟩
          go_wp2_with fail
          refine (numText_i fb 1 _ (by omega)).mono ?_
          rw [← HY.out]
          rintro e w5 ⟨rfl, hb5⟩
          have L5 := Lib.hid (LZ.out.trans (hb5.mono LZ.out.size))
          have V5 := Lib.hid (Z1.out.below hb5)
          have O5 := Lib.hid (OZ.out.below hb5)
          clear hb5 n0 n1 x10
          go_wp2
          go_roundw
          case rel => exact ⟨j2 + 1, X ++ Y, by omega, by go_num, rfl, hXYs, HXY, V5, L5, O5⟩
          case measure => (simp [intOf]; try omega)
        have q1 := nm_flag i1 i12 c10
        by_cases c11 : i = 11 ∨ i = 12
        · have xv : W2.cell? ⟨w.heap.size, i, none⟩ = some (.string (o.txt i)) := Z1.out.2 i _ (voC_txt o _ i c11)
          have HT : Hid (txP w.heap.size i = some ⟨w.heap.size, i, none⟩) := Lib.hid (by rcases c11 with rfl | rfl <;> rfl)
          obtain ⟨Y, hY⟩ : ∃ Y, Y = o.txt i := ⟨_, rfl⟩
          have hYs : Y.size ≤ 20 := by rw [hY]; exact HTZ.out c11
          have HXY : Hid (X ++ Y = str (bodyI o j ++ bodyF o (j2 + 1))) := Lib.hid (by
            have hYL : Y = str (fieldL o (i, m2)) := by unfold fieldL; rw [if_pos c11, str_of, hY]
            rw [HX.out, hYL, str_app, HST.out, List.append_assoc])
          have hXYs : (X ++ Y).size ≤ 80 := by rw [HXY.out, str_size, List.length_append]; have := HIL.out; have := HFLn.out; omega
          rw [← hY] at xv
          clear c11 c10 hY HST
          go_wp2_with fail
          refine (text_i w.heap.size i _ i1 i12).mono ?_
          rw [HT.out]
          rintro e w5 ⟨rfl, rfl⟩
          go_wp2_with fail
          refine (text_i w.heap.size i _ i1 i12).mono ?_
          rw [HT.out]
          rintro e w5 ⟨rfl, rfl⟩
          go_wp2
          go_roundw
          case rel => exact ⟨j2 + 1, X ++ Y, by omega, by go_num, rfl, hXYs, HXY, Z1, LZ, OZ⟩
          case measure => (simp [intOf]; try omega)
        · have i9 : i ≤ 9 := by omega
          have xv : W2.cell? ⟨w.heap.size, i, none⟩ = some (.int .i64 (o.num i)) := Z1.out.2 i _ (voC_num o _ i i1 i9)
          have HT : Hid (txP w.heap.size i = none) := Lib.hid (by unfold txP; rw [if_neg (by omega), if_neg (by omega)])
          have hnum := wf_num HWF.out i
          obtain ⟨Y, hY⟩ : ∃ Y, Y = str (numTextL (o.num i) m2) := ⟨_, rfl⟩
          have hYs : Y.size ≤ 20 := by rw [hY, str_size]; have := nt_len_le (o.num i) m2 (by omega); omega
          have HXY : Hid (X ++ Y = str (bodyI o j ++ bodyF o (j2 + 1))) := Lib.hid (by
            have hYL : Y = str (fieldL o (i, m2)) := by unfold fieldL; rw [if_neg c11, hY]
            rw [HX.out, hYL, str_app, HST.out, List.append_assoc])
          have hXYs : (X ++ Y).size ≤ 80 := by rw [HXY.out, str_size, List.length_append]; have := HIL.out; have := HFLn.out; omega
          have HY := Lib.hid hY
          clear c11 c10 hY HST
          go_wp2_with fail
          refine (text_i w.heap.size i _ i1 i12).mono ?_
          rw [HT.out]
          rintro e w5 ⟨rfl, rfl⟩
          have keep : ∀ w', Below W2.drew.heap.size W2.drew w' → w'.cell? ⟨wr.heap.size, 0, none⟩ = some (.string (nm i)) ∧ w'.cell? ⟨wr.heap.size, 1, none⟩ = some (.int .i64 (m2 : Int)) ∧ w'.cell? ⟨w.heap.size, i, none⟩ = some (.int .i64 (o.num i)) := fun w' hb =>
            ⟨(hb.cell (p := ⟨wr.heap.size, 0, none⟩) gws).trans n0, (hb.cell (p := ⟨wr.heap.size, 1, none⟩) gws).trans n1, (hb.cell (p := ⟨w.heap.size, i, none⟩) gw0).trans xv⟩
          have HKP := Lib.hid keep
          clear keep
          have hcat : ¬ (9223372036854775807 < X.size + Y.size) := by omega
          go_upto_region 12 with (fail)
          refine wp_region_held_drew (S := fun w' => w'.cell? ⟨wr.heap.size, 0, none⟩ = some (.string (nm i)) ∧ w'.cell? ⟨wr.heap.size, 1, none⟩ = some (.int .i64 (m2 : Int)) ∧ w'.cell? ⟨w.heap.size, i, none⟩ = some (.int .i64 (o.num i))) (by kernel_rfl) ⟨n0, n1, xv⟩ (fun hHeld => ?_)
          refine wpAnyH_take (i := 0) (v := ?_) rfl (by kernel_rfl) (by kernel_rfl) (by kernel_rfl) (fun _ _ _ h => h) (Or.inl ⟨by rfl, ?_⟩) (by assumption) ?_
          rotate_left
          · (intro w hSw; (try dsimp only at hSw); go_simp; try (with_reducible rfl))
          try simp only [Act.put, List.setIfInBounds_toArray, List.set_cons_zero, List.set_cons_succ]
          refine wpAnyH_take (i := 1) (v := ?_) rfl (by kernel_rfl) (by kernel_rfl) (by kernel_rfl) (fun _ _ _ h => h) (Or.inl ⟨by rfl, ?_⟩) (by assumption) ?_
          rotate_left
          · (intro w hSw; (try dsimp only at hSw); go_simp; try (with_reducible rfl))
          try simp only [Act.put, List.setIfInBounds_toArray, List.set_cons_zero, List.set_cons_succ]
          refine wpAnyH_take (i := 2) (v := ?_) rfl (by kernel_rfl) (by kernel_rfl) (by kernel_rfl) (fun _ _ _ h => h) (Or.inl ⟨by rfl, ?_⟩) (by assumption) ?_
          rotate_left
          · (intro w hSw; (try dsimp only at hSw); go_simp; try (with_reducible rfl))
          try simp only [Act.put, List.setIfInBounds_toArray, List.set_cons_zero, List.set_cons_succ]
          refine wpAnyH_take (i := 6) (v := ?_) rfl (by kernel_rfl) (by kernel_rfl) (by kernel_rfl) (fun _ _ _ h => h) (Or.inl ⟨by rfl, ?_⟩) (by assumption) ?_
          rotate_left
          · (intro w hSw; (try dsimp only at hSw); go_simp; try (with_reducible rfl))
          try simp only [Act.put, List.setIfInBounds_toArray, List.set_cons_zero, List.set_cons_succ]
          refine wpAnyH_take (i := 7) (v := ?_) rfl (by kernel_rfl) (by kernel_rfl) (by kernel_rfl) (fun _ _ _ h => h) (Or.inl ⟨by rfl, ?_⟩) (by assumption) ?_
          rotate_left
          · (intro w hSw; (try dsimp only at hSw); go_simp; try (with_reducible rfl))
          try simp only [Act.put, List.setIfInBounds_toArray, List.set_cons_zero, List.set_cons_succ]
          refine wpAnyH_ready (rs := [3]) (by kernel_rfl) (by simp) ?_
          refine AllReadyH.cons rfl (fun K hK => ?_) AllReadyH.nil
          go_simp
          (go_at_call 82; refine (number_i w.heap.size i _ i1 i9).mono ?_; rintro e w5 ⟨rfl, rfl⟩)
          try go_wp2_with fail
          refine hK.out _ _ ?_ (fun hHeld => ?_)
          · assumption
          clear hK K
          try simp only [Act.put, List.setIfInBounds_toArray, List.set_cons_zero, List.set_cons_succ]
          refine wpAnyH_take (i := 4) (v := ?_) rfl (by kernel_rfl) (by kernel_rfl) (by kernel_rfl) (fun _ _ _ h => h) (Or.inl ⟨by rfl, ?_⟩) (by assumption) ?_
          rotate_left
          · (intro w hSw; (try dsimp only at hSw); go_simp; try (with_reducible rfl))
          try simp only [Act.put, List.setIfInBounds_toArray, List.set_cons_zero, List.set_cons_succ]
          refine wpAnyH_take (i := 5) (v := ?_) rfl (by kernel_rfl) (by kernel_rfl) (by kernel_rfl) (fun _ _ _ h => h) (Or.inl ⟨by rfl, ?_⟩) (by assumption) ?_
          rotate_left
          · (intro w hSw; (try dsimp only at hSw); go_simp; try (with_reducible rfl))
          try simp only [Act.put, List.setIfInBounds_toArray, List.set_cons_zero, List.set_cons_succ]
          refine wpAnyH_ready (rs := [8]) (by kernel_rfl) (by simp) ?_
          refine AllReadyH.cons rfl (fun K hK => ?_) AllReadyH.nil
          go_simp
          (go_at_call 81; refine (numText_i (o.num i) m2 _ hnum).mono ?_; rw [← HY.out]; rintro e w5 ⟨rfl, hb5⟩)
          try go_wp2_with fail
          refine hK.out _ _ ?_ (fun hHeld => ?_)
          · exact HKP.out _ hb5
          clear hK K
          try simp only [Act.put, List.setIfInBounds_toArray, List.set_cons_zero, List.set_cons_succ]
          refine wpAnyH_take (i := 9) (v := ?_) rfl (by kernel_rfl) (by kernel_rfl) (by kernel_rfl) (fun _ _ _ h => h) (Or.inl ⟨by rfl, ?_⟩) (by assumption) ?_
          rotate_left
          · (intro w hSw; (try dsimp only at hSw); go_simp; try (with_reducible rfl))
          try simp only [Act.put, List.setIfInBounds_toArray, List.set_cons_zero, List.set_cons_succ]
          refine wpAnyH_take (i := 10) (v := ?_) rfl (by kernel_rfl) (by kernel_rfl) (by kernel_rfl) (fun _ _ _ h => h) (Or.inl ⟨by rfl, ?_⟩) (by assumption) ?_
          rotate_left
          · (intro w hSw; (try dsimp only at hSw); go_simp; try (with_reducible rfl))
          try simp only [Act.put, List.setIfInBounds_toArray, List.set_cons_zero, List.set_cons_succ]
          refine wpAnyH_done (by kernel_rfl) ?_ _
          clear n0 n1 xv
          repeat clear hHeld
          have L5 := Lib.hid (LZ.out.drew.trans (hb5.mono LZ.out.drew.size))
          have Z5 := Lib.hid (Z1.out.drew.below hb5)
          have O5 := Lib.hid (OZ.out.drew.below hb5)
          clear hb5
          go_wp2
          go_roundw
          case rel => exact ⟨j2 + 1, X ++ Y, by omega, by go_num, rfl, hXYs, HXY, Z5, L5, O5⟩
          case measure => (simp [intOf]; try omega)
end Go.Proofs.Ytkgbkgonlopciaa

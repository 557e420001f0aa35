/- The walks of OptSize. -/
import Derived.Test.YtkgbkgonlopciaaA23
import Derived.Deep.Cut
namespace Go.Proofs.Ytkgbkgonlopciaa
open Go.RowKit
set_option linter.unusedVariables false
set_option linter.unusedSimpArgs false
theorem optL_len (o : OD) : (optL o).length ≤ 42 := by
  cases h : optOk o
  · rw [optL_no h]; simp
  · rw [optL_yes h]
    have h1 := bodyL_len h
    have h2 := nt_len_le o.k 1 (by omega)
    have h3 := nt_len_le (bodyL o).length 1 (by omega)
    simp only [List.length_append]
    omega
set_option maxRecDepth 100000 in
theorem optSize_i (o : OD) (A : Option Addr) (n cp : Nat) (w : World) (h : Rd w 1 (.slice A n cp) n (o.ids.map vn)) (hn : n ≤ 4294967296) (hwf : o.wf) :
    Calls Try.prog 40 #[vo o (.slice A n cp)] w fun e w' => e = .returned (.int .i64 ((optL o).length : Int)) ∧ Below w.heap.size w w' := by
  have H := Lib.hid h
  have HWF := Lib.hid hwf
  have hs : (str (optL o)).size = (optL o).length := str_size _
  obtain ⟨R, hR⟩ : ∃ R, R = str (optL o) := ⟨_, rfl⟩
  obtain ⟨q, hq⟩ : ∃ q, q = (optL o).length := ⟨_, rfl⟩
  rw [← hR, ← hq] at hs
  rw [← hq]
  have HR := Lib.hid hR
  have HQ := Lib.hid hs
  clear h hwf hR hs hq
  go_enter Try.func40, Try.ntmps40
  go_upto_region 1 with (fail)
  obtain ⟨W, hW⟩ : ∃ W, W = w.alloc (.cells (voC o (.slice A n cp)).toArray 27) := ⟨_, rfl⟩
  change Code.wp _ _ _ _ (w.alloc (.cells (voC o (.slice A n cp)).toArray 27))
  rw [← hW]
  have L0 := Lib.hid ((Below.refl w.heap.size w).alloc (Nat.le_refl _) (.cells (voC o (.slice A n cp)).toArray 27))
  have X1 := Lib.hid (Bx.new w (voC o (.slice A n cp)).toArray 27)
  rw [← hW] at L0 X1
  clear hW
  go_wp2_with (refine wpl_opt rfl (by rfl) (by rfl) X1.out ?_)
  refine (optText_i o A n cp _ (H.out.below L0.out) hn HWF.out).mono ?_
  rw [← HR.out]
  rintro e w2 ⟨rfl, hb2⟩
  have L2 := Lib.hid (L0.out.trans (hb2.mono L0.out.size))
  clear hb2
  go_wp2
  go_ret
  exact ⟨ret_int (by rw [← HQ.out]), L2.out⟩
set_option maxRecDepth 100000 in
theorem optSize_s (o : OD) (A : Option Addr) (n cp : Nat) (w : World) (h : Rd w 1 (.slice A n cp) n (o.ids.map vn)) (hwf : o.wf) :
    Calls Try.prog 39 #[vo o (.slice A n cp)] w fun e w' => e = .returned (.int .i64 ((optL o).length : Int)) ∧ Below w.heap.size w w' := by
  have H := Lib.hid h
  have HWF := Lib.hid hwf
  have hs : (str (optL o)).size = (optL o).length := str_size _
  obtain ⟨R, hR⟩ : ∃ R, R = str (optL o) := ⟨_, rfl⟩
  obtain ⟨q, hq⟩ : ∃ q, q = (optL o).length := ⟨_, rfl⟩
  rw [← hR, ← hq] at hs
  rw [← hq]
  have HR := Lib.hid hR
  have HQ := Lib.hid hs
  clear h hwf hR hs hq
  go_enter Try.func39, Try.ntmps39
  go_upto_region 1 with (fail)
  obtain ⟨W, hW⟩ : ∃ W, W = w.alloc (.cells (voC o (.slice A n cp)).toArray 27) := ⟨_, rfl⟩
  change Code.wp _ _ _ _ (w.alloc (.cells (voC o (.slice A n cp)).toArray 27))
  rw [← hW]
  have L0 := Lib.hid ((Below.refl w.heap.size w).alloc (Nat.le_refl _) (.cells (voC o (.slice A n cp)).toArray 27))
  have X1 := Lib.hid (Bx.new w (voC o (.slice A n cp)).toArray 27)
  rw [← hW] at L0 X1
  clear hW
  go_wp2_with (refine wpl_opt rfl (by rfl) (by rfl) X1.out ?_)
  refine (optText_s o A n cp _ (H.out.below L0.out) HWF.out).mono ?_
  rw [← HR.out]
  rintro e w2 ⟨rfl, hb2⟩
  have L2 := Lib.hid (L0.out.trans (hb2.mono L0.out.size))
  clear hb2
  go_wp2
  go_ret
  exact ⟨ret_int (by rw [← HQ.out]), L2.out⟩
end Go.Proofs.Ytkgbkgonlopciaa

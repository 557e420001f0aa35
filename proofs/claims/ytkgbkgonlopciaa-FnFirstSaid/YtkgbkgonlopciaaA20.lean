/- The reference's OptOk: that what is left over says the same as the comparison with the used fields; its walk. -/
import Derived.Test.YtkgbkgonlopciaaA16
import Derived.Test.YtkgbkgonlopciaaA19
import Derived.Deep.Cut
import Derived.Outline
import Derived.Deep.QuietTactic
import Derived.BigQuiet
import Derived.Deep.RegionHeld
namespace Go.Proofs.Ytkgbkgonlopciaa
open Go.RowKit
set_option linter.unusedVariables false
set_option linter.unusedSimpArgs false
theorem empB (s : ByteArray) : s.toList.isEmpty = sameB s ⟨#[]⟩ := by
  rw [ByteArray.toList_eq]
  unfold sameB
  cases s.data.toList <;> rfl
theorem sameB_self (s : ByteArray) : sameB s s = true := (sameB_iff s s).2 rfl
theorem bne_not (a b : Int) : (a != b) = !(a == b) := rfl
theorem nil_eq (l : List Int) : (l == []) = !decide (0 < l.length) := by cases l <;> simp
theorem isE_len (l : List Int) : l.isEmpty = !decide (0 < l.length) := by cases l <;> simp
set_option maxHeartbeats 3200000 in
/-- nothing is left over where the option is its used fields -/
theorem rest_used (o : OD) (h : 1 ≤ o.k ∧ o.k ≤ 10) : sameOD o (used o) = !restB o := by
  obtain ⟨ko, id, ad, po, to, no, se, su, le, ac, fl, ke, ma, ids⟩ := o
  dsimp only at h
  unfold restB rest1 rest2
  rcases kinds10 h with rfl | rfl | rfl | rfl | rfl | rfl | rfl | rfl | rfl | rfl
  all_goals
    simp only [sameOD, used, lay, OD.new, OD.put, OD.num, OD.txt, hsB, mkL, ord, List.foldl_cons, List.foldl_nil, beq_self_eq_true, sameB_self, empB, bne_not, nil_eq]
    simp [List.range_succ]
    try rw [isE_len]
    try simp only [sameB_self, Bool.and_true, Bool.true_and]
    ac_rfl
/-- the numbers lie in a byte's range and rise -/
def idsAll (l : List Int) : Bool := risingL l && l.all (fun n => decide (0 ≤ n) && decide (n ≤ 255))
theorem sOk_rest {o : OD} (hk : 1 ≤ o.k ∧ o.k ≤ 10) (h : restB o = true) : optOk o = false := optOk_s (by rw [rest_used o hk, h]; rfl)
theorem sOk_same {o : OD} (hk : 1 ≤ o.k ∧ o.k ≤ 10) (h : restB o = false) : sameOD o (used o) = true := by rw [rest_used o hk, h]; rfl
theorem sOk_len {o : OD} (hk : 1 ≤ o.k ∧ o.k ≤ 10) (h : restB o = false) (h8 : o.k = 8) (hl : ¬ (1 ≤ o.ids.length ∧ o.ids.length ≤ 8)) : optOk o = false := by
  rw [optOk_8 (sOk_same hk h) h8]
  unfold idsOk
  by_cases e : 1 ≤ o.ids.length
  · have : ¬ o.ids.length ≤ 8 := fun e2 => hl ⟨e, e2⟩
    simp [this]
  · simp [e]
theorem sOk_field {o : OD} (hk : 1 ≤ o.k ∧ o.k ≤ 10) (h : restB o = false) {j : Nat} (hj : j < (lay o.k).length) (hf : fieldOk o ((lay o.k)[j]'hj) = false) : optOk o = false := by
  by_cases h8 : o.k = 8
  · rw [h8] at hj; simp [lay] at hj
  · rw [optOk_n hk (sOk_same hk h) h8]; exact all_no hj hf
theorem sOk_ids {o : OD} (hk : 1 ≤ o.k ∧ o.k ≤ 10) (h : restB o = false) (hi : idsAll o.ids = false) : optOk o = false := by
  by_cases h8 : o.k = 8
  · rw [optOk_8 (sOk_same hk h) h8]
    unfold idsAll at hi
    unfold idsOk
    rw [Bool.and_assoc, hi, Bool.and_false]
  · have e := (sameOD_iff _ _).1 (sOk_same hk h)
    have e2 : o.ids = [] := by rw [e, used_ids h8]
    rw [e2] at hi
    cases hi
theorem sOk_yes {o : OD} (hk : 1 ≤ o.k ∧ o.k ≤ 10) (h : restB o = false) (h8 : o.k = 8 → 1 ≤ o.ids.length ∧ o.ids.length ≤ 8) (hf : ∀ j (hj : j < (lay o.k).length), fieldOk o ((lay o.k)[j]'hj) = true) (hi : idsAll o.ids = true) : optOk o = true := by
  by_cases h8' : o.k = 8
  · rw [optOk_8 (sOk_same hk h) h8']
    unfold idsAll at hi
    unfold idsOk
    rw [Bool.and_assoc, hi, decide_eq_true (h8 h8').1, decide_eq_true (h8 h8').2]
    rfl
  · rw [optOk_n hk (sOk_same hk h) h8']
    exact all_take_lt hf
theorem idsAll_no1 {l : List Int} {k : Nat} (hk : k < l.length) (h : (decide (0 ≤ l.getD k 0) && decide (l.getD k 0 ≤ 255)) = false) : idsAll l = false := by
  unfold idsAll
  rw [show l.all (fun n => decide (0 ≤ n) && decide (n ≤ 255)) = false from all_no hk (by rwa [List.getD_eq_getElem?_getD, List.getElem?_eq_getElem hk] at h), Bool.and_false]
theorem idsAll_no2 {l : List Int} {k : Nat} (hk : k + 1 < l.length) (h : ¬ l.getD k 0 < l.getD (k + 1) 0) : idsAll l = false := by
  unfold idsAll
  cases e : risingL l
  · rfl
  · exact absurd (risingL_at e k hk) h
theorem idsAll_yes {l : List Int} (h1 : ∀ k, k < l.length → (decide (0 ≤ l.getD k 0) && decide (l.getD k 0 ≤ 255)) = true) (h2 : ∀ k, k + 1 < l.length → l.getD k 0 < l.getD (k + 1) 0) : idsAll l = true := by
  unfold idsAll
  rw [risingL_of h2, Bool.true_and]
  exact all_take_lt (fun j hj => by have := h1 j hj; rwa [List.getD_eq_getElem?_getD, List.getElem?_eq_getElem hj] at this)
end Go.Proofs.Ytkgbkgonlopciaa

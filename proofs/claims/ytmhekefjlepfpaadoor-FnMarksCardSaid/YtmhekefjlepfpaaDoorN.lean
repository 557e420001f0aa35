/- Bytes read at a place, numbers in bytes: the plain words. -/
import Derived.Test.YtmhekefjlepfpaaDoorK
namespace Go.Proofs.YtmhekefjlepfpaaDoor
open Go.RowKit
set_option linter.unusedVariables false
set_option linter.unusedSimpArgs false

def textAtB (s : ByteArray) (a m : Int) : Bool := decide (0 ≤ a) && decide (0 ≤ m) && decide (a ≤ s.size) && decide (m ≤ s.size - a)
def textAtS (s : ByteArray) (a m : Int) : ByteArray := if textAtB s a m then s.extract a.toNat (a + m).toNat else ⟨#[]⟩
theorem textAtB_no {s : ByteArray} {a m : Int} (h : textAtB s a m = false) : a < 0 ∨ m < 0 ∨ s.size < a ∨ (0 ≤ a ∧ 0 ≤ m ∧ a ≤ s.size ∧ s.size - a < m ∧ ¬ m ≤ s.size - a) := by
  unfold textAtB at h
  simp only [Bool.and_eq_false_iff, decide_eq_false_iff_not] at h
  omega
theorem textAtB_yes {s : ByteArray} {a m : Int} (h : textAtB s a m = true) : ∃ A M : Nat, a = A ∧ m = M ∧ A + M ≤ s.size := by
  unfold textAtB at h
  simp only [Bool.and_eq_true, decide_eq_true_eq] at h
  exact ⟨a.toNat, m.toNat, by omega, by omega, by omega⟩
theorem textAtB_mk {s : ByteArray} {A M : Nat} (h : A + M ≤ s.size) : textAtB s A M = true := by
  unfold textAtB
  simp only [Bool.and_eq_true, decide_eq_true_eq]
  omega
theorem textAtS_mk {s : ByteArray} {A M : Nat} (h : A + M ≤ s.size) : textAtS s A M = s.extract A (A + M) := by
  unfold textAtS
  rw [if_pos (textAtB_mk h)]
  rfl
theorem textAtS_no {s : ByteArray} {a m : Int} (h : textAtB s a m = false) : textAtS s a m = ⟨#[]⟩ := by
  unfold textAtS; rw [h]; rfl

def numTextB (n wd : Int) : Bool := decide (0 ≤ n) && decide (1 ≤ wd) && decide (wd ≤ 6) && decide (n < 256 ^ wd.toNat)
def numTextL (n wd : Int) : List UInt8 := if numTextB n wd then be n.toNat wd.toNat else []
theorem numTextB_yes {n wd : Int} (h : numTextB n wd = true) : ∃ N W : Nat, n = N ∧ wd = W ∧ 1 ≤ W ∧ W ≤ 6 ∧ N < 256 ^ W := by
  unfold numTextB at h
  simp only [Bool.and_eq_true, decide_eq_true_eq] at h
  obtain ⟨⟨⟨h0, h1⟩, h2⟩, h3⟩ := h
  obtain ⟨N, rfl⟩ := Int.eq_ofNat_of_zero_le h0
  obtain ⟨W, rfl⟩ := Int.eq_ofNat_of_zero_le (show 0 ≤ wd by omega)
  refine ⟨N, W, rfl, rfl, by omega, by omega, ?_⟩
  have : ((256 ^ W : Nat) : Int) = (256 : Int) ^ W := by simp
  simp only [Int.toNat_natCast] at h3
  omega
theorem numTextB_mk {N W : Nat} (h1 : 1 ≤ W) (h6 : W ≤ 6) (h : N < 256 ^ W) : numTextB N W = true := by
  unfold numTextB
  have : ((256 ^ W : Nat) : Int) = (256 : Int) ^ W := by simp
  simp only [Bool.and_eq_true, decide_eq_true_eq, Int.toNat_natCast]
  omega
theorem numTextL_mk {N W : Nat} (h1 : 1 ≤ W) (h6 : W ≤ 6) (h : N < 256 ^ W) : numTextL N W = be N W := by
  unfold numTextL; rw [numTextB_mk h1 h6 h]; simp
theorem numTextL_no {n wd : Int} (h : numTextB n wd = false) : numTextL n wd = [] := by
  unfold numTextL; rw [h]; rfl
theorem numTextB_no {n wd : Int} (h : numTextB n wd = false) : n < 0 ∨ wd < 1 ∨ 6 < wd ∨ ∃ N W : Nat, n = N ∧ wd = W ∧ 1 ≤ W ∧ W ≤ 6 ∧ 256 ^ W ≤ N := by
  unfold numTextB at h
  simp only [Bool.and_eq_false_iff, decide_eq_false_iff_not] at h
  by_cases h0 : n < 0
  · exact .inl h0
  by_cases h1 : wd < 1
  · exact .inr (.inl h1)
  by_cases h2 : 6 < wd
  · exact .inr (.inr (.inl h2))
  obtain ⟨N, rfl⟩ := Int.eq_ofNat_of_zero_le (show 0 ≤ n by omega)
  obtain ⟨W, rfl⟩ := Int.eq_ofNat_of_zero_le (show 0 ≤ wd by omega)
  refine .inr (.inr (.inr ⟨N, W, rfl, rfl, by omega, by omega, ?_⟩))
  have : ((256 ^ W : Nat) : Int) = (256 : Int) ^ W := by simp
  simp only [Int.toNat_natCast] at h
  omega
theorem numTextL_len {n wd : Int} (h : numTextB n wd = true) : ((numTextL n wd).length : Int) = wd := by
  obtain ⟨N, W, rfl, rfl, h1, h6, hl⟩ := numTextB_yes h
  rw [numTextL_mk h1 h6 hl, be_len]

theorem q_zero {N W : Nat} (h : N < 256 ^ W) : (N : Int) / 2 ^ (8 * W) = 0 := by
  rw [show (256 : Nat) = 2 ^ 8 from rfl, ← Nat.pow_mul] at h
  have h2 : ((2 ^ (8 * W) : Nat) : Int) = (2 : Int) ^ (8 * W) := by simp
  rw [← h2]
  exact Int.ediv_eq_zero_of_lt (by omega) (by omega)
theorem q_pos {N W : Nat} (h : 256 ^ W ≤ N) : 0 < (N : Int) / 2 ^ (8 * W) := by
  rw [show (256 : Nat) = 2 ^ 8 from rfl, ← Nat.pow_mul] at h
  have h2 : ((2 ^ (8 * W) : Nat) : Int) = (2 : Int) ^ (8 * W) := by simp
  have h3 : 0 < 2 ^ (8 * W) := Nat.pow_pos (by omega)
  have h4 := Nat.div_pos h h3
  have h5 : ((N / 2 ^ (8 * W) : Nat) : Int) = (N : Int) / 2 ^ (8 * W) := by simp
  omega
theorem lt_256 {N W : Nat} (h : N < 256 ^ W) (h6 : W ≤ 6) : N < 281474976710656 :=
  Nat.lt_of_lt_of_le h (Nat.pow_le_pow_right (by omega) h6)
def numAtB (s : ByteArray) (a wd : Int) : Bool := decide (1 ≤ wd) && decide (wd ≤ 6) && textAtB s a wd
def numAtN (s : ByteArray) (a wd : Int) : Nat := if numAtB s a wd then ofBe (textAtS s a wd).data.toList else 0
theorem numAtB_yes {s : ByteArray} {a wd : Int} (h : numAtB s a wd = true) : ∃ A M : Nat, a = A ∧ wd = M ∧ 1 ≤ M ∧ M ≤ 6 ∧ A + M ≤ s.size := by
  unfold numAtB at h
  simp only [Bool.and_eq_true, decide_eq_true_eq] at h
  obtain ⟨A, M, rfl, rfl, hAM⟩ := textAtB_yes h.2
  exact ⟨A, M, rfl, rfl, by omega, by omega, hAM⟩
theorem numAtB_mk {s : ByteArray} {A M : Nat} (h1 : 1 ≤ M) (h6 : M ≤ 6) (h : A + M ≤ s.size) : numAtB s A M = true := by
  unfold numAtB
  rw [textAtB_mk h]
  simp
  omega
theorem numAtN_mk {s : ByteArray} {A M : Nat} (h1 : 1 ≤ M) (h6 : M ≤ 6) (h : A + M ≤ s.size) : numAtN s A M = ofBe (s.extract A (A + M)).data.toList := by
  unfold numAtN
  rw [numAtB_mk h1 h6 h, textAtS_mk h]
  rfl
theorem numAtN_no {s : ByteArray} {a wd : Int} (h : numAtB s a wd = false) : numAtN s a wd = 0 := by unfold numAtN; rw [h]; rfl
theorem numAtB_no {s : ByteArray} {a wd : Int} (h : numAtB s a wd = false) : wd < 1 ∨ 6 < wd ∨ (1 ≤ wd ∧ wd ≤ 6 ∧ (a < 0 ∨ (0 ≤ a ∧ s.size - wd < a ∧ ¬ a ≤ s.size - wd)) ∧ textAtB s a wd = false) := by
  by_cases h1 : wd < 1
  · exact .inl h1
  by_cases h2 : 6 < wd
  · exact .inr (.inl h2)
  have h3 : textAtB s a wd = false := by
    unfold numAtB at h
    rw [decide_eq_true (by omega), decide_eq_true (by omega)] at h
    simpa using h
  have := textAtB_no h3
  exact .inr (.inr ⟨by omega, by omega, by omega, h3⟩)

theorem ext_size {s : ByteArray} {A M : Nat} (h : A + M ≤ s.size) : (s.extract A (A + M)).size = M := by simp; omega

end Go.Proofs.YtmhekefjlepfpaaDoor

/- Plain laws of the figures: a text comes back from its hex form, a number from its decimal form, what is brought between stays. -/
import Derived.Test.YtpfhhmlbciojaaaK
import Derived.Test.YtpfhhmlbciojaaaK2
namespace Go.Proofs.Ytpfhhmlbciojaaa
open Go.RowKit
set_option linter.unusedVariables false
set_option linter.unusedSimpArgs false

theorem hexV_hexC {n : Nat} (h : n < 16) : hexV (hexC n) = n := by
  have : ∀ n : Fin 16, hexV (hexC n.val) = (n.val : Int) := by decide
  exact this ⟨n, h⟩
theorem unhexL_hexL (l : List UInt8) : unhexL (hexL l) = some l := by
  induction l with
  | nil => rfl
  | cons c l ih =>
    have hc := c.toNat_lt
    have h1 : c.toNat / 16 < 16 := by omega
    have h2 : c.toNat % 16 < 16 := by omega
    have e : hexL (c :: l) = hexC (c.toNat / 16) :: hexC (c.toNat % 16) :: hexL l := rfl
    rw [e, unhexL, hexV_hexC h1, hexV_hexC h2, if_neg (by omega), ih, Option.map_some]
    have : (16 * ((c.toNat / 16 : Nat) : Int) + ((c.toNat % 16 : Nat) : Int)).toNat = c.toNat := by omega
    rw [this]
    congr 2
    exact UInt8.ofNat_toNat
theorem unhex_back (t : ByteArray) (ht : t.size ≤ 20000) : unhexB (str (hexL t.data.toList)) = true ∧ unhexT (str (hexL t.data.toList)) = t := by
  have hl : t.data.toList.length = t.size := by simp
  have h : unhexO (str (hexL t.data.toList)) = some t.data.toList := by
    unfold unhexO
    rw [str_size, hexL_len, if_pos (by omega), str_toList, unhexL_hexL]
  unfold unhexB unhexT
  rw [h]
  exact ⟨rfl, str_of t⟩
theorem dig_of (d : Nat) (h : d < 10) : isDig (UInt8.ofNat (48 + d)) = true ∧ (UInt8.ofNat (48 + d)).toNat - 48 = d := by
  have : ∀ d : Fin 10, isDig (UInt8.ofNat (48 + d.val)) = true ∧ (UInt8.ofNat (48 + d.val)).toNat - 48 = d.val := by decide
  exact this ⟨d, h⟩
theorem decG_back : ∀ (f m : Nat), m < 10 ^ f → (decG f m).all isDig = true ∧ valD (decG f m) = m
  | 0, m, h => by
    have : m = 0 := by simp at h; omega
    subst this
    exact ⟨rfl, rfl⟩
  | f + 1, m, h => by
    by_cases h0 : m = 0
    · subst h0; rw [decG_zero]; exact ⟨rfl, rfl⟩
    · obtain ⟨h1, h2⟩ := decG_back f (m / 10) (by rw [Nat.pow_succ] at h; omega)
      obtain ⟨h3, h4⟩ := dig_of (m % 10) (by omega)
      rw [decG, if_neg h0]
      refine ⟨?_, ?_⟩
      · rw [List.all_append, h1]
        simp only [List.all_cons, List.all_nil, h3, Bool.and_self]
      · rw [valD_snoc, h2, h4]; omega
theorem decG_lenk : ∀ (k f m : Nat), m < 10 ^ k → k ≤ f → (decG f m).length ≤ k
  | 0, f, m, h, _ => by
    have : m = 0 := by simp at h; omega
    subst this; rw [decG_zero]; simp
  | k + 1, 0, m, _, h => by omega
  | k + 1, f + 1, m, h, hf => by
    rw [decG]
    split
    · simp
    · have := decG_lenk k f (m / 10) (by rw [Nat.pow_succ] at h; omega) (by omega)
      simp only [List.length_append, List.length_cons, List.length_nil]
      omega
theorem dec_back (n : Nat) (h : n ≤ 100000000) : rdB (str (decL (n : Int))) = true ∧ rdN (str (decL (n : Int))) = n := by
  have e : decL (n : Int) = decD n := by unfold decL; rw [if_neg (by omega)]; rfl
  have hb : rdB (str (decD n)) = true ∧ valD (decD n) = n := by
    have k : (decD n).all isDig = true ∧ valD (decD n) = n ∧ (decD n).length ≤ 10 := by
      unfold decD decH
      split
      · rename_i h0; subst h0; exact ⟨by decide, by decide, by decide⟩
      · obtain ⟨h1, h2⟩ := decG_back 20 n (by omega)
        exact ⟨h1, h2, decG_lenk 10 20 n (by omega) (by omega)⟩
    refine ⟨?_, k.2.1⟩
    unfold rdB
    rw [str_size, str_toList, k.1, k.2.1]
    simp only [Bool.and_true, beq_self_eq_true, Bool.and_eq_true, decide_eq_true_eq]
    exact ⟨k.2.2, by omega⟩
  rw [e]
  refine ⟨hb.1, ?_⟩
  unfold rdN
  rw [hb.1, if_pos rfl, str_toList, hb.2]
end Go.Proofs.Ytpfhhmlbciojaaa

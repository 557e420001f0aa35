/- The keys over lanes, and the check that the codes of a text and of a longer one are apart. -/
import Derived.Test.YtmhekefjlepfpaaDoorV4
namespace Go.Proofs.YtmhekefjlepfpaaDoor
set_option linter.unusedVariables false
set_option linter.unusedSimpArgs false

def beN (n : Nat) : Nat → List Nat
  | 0 => []
  | k + 1 => beN (n / 256) k ++ [n % 256]
theorem beN_byts : ∀ (k n : Nat), byts (beN n k) = be n k
  | 0, _ => rfl
  | k + 1, n => by
    show byts (beN (n / 256) k ++ [n % 256]) = be (n / 256) k ++ [UInt8.ofNat n]
    rw [byts_app, beN_byts k]
    show _ ++ [UInt8.ofNat (n % 256)] = _
    rw [ofNat_mod]
theorem beN_lt : ∀ (k n : Nat), ∀ x ∈ beN n k, x < 256
  | 0, _, x, h => by cases h
  | k + 1, n, x, h => by
    rcases List.mem_append.1 h with h | h
    · exact beN_lt k _ x h
    · rw [List.mem_singleton.1 h]; exact Nat.mod_lt _ (by omega)
theorem beN_len : ∀ (k n : Nat), (beN n k).length = k
  | 0, _ => rfl
  | k + 1, n => by show (beN (n / 256) k ++ [n % 256]).length = k + 1; rw [List.length_append, beN_len k]; rfl
theorem byts_rep (n x : Nat) : byts (List.replicate n x) = List.replicate n (UInt8.ofNat x) := by simp [byts]
def tailN (t : List Nat) : List Nat := t ++ 128 :: (List.replicate (padN (64 + t.length)) 0 ++ beN (8 * (64 + t.length)) 8)
theorem tailN_byts (t : List Nat) : byts (tailN t) = tailL (byts t) := by
  unfold tailN tailL
  rw [byts_app, byts_len, ← beN_byts]
  show byts t ++ (UInt8.ofNat 128 :: byts (_ ++ _)) = _
  rw [byts_app, byts_rep]
  rfl
theorem tailN_lt {t : List Nat} (h : ∀ x ∈ t, x < 256) : ∀ x ∈ tailN t, x < 256 := by
  intro x hx
  rcases List.mem_append.1 hx with hx | hx
  · exact h x hx
  · rcases List.mem_cons.1 hx with rfl | hx
    · omega
    · rcases List.mem_append.1 hx with hx | hx
      · rw [(List.mem_replicate.1 hx).2]; omega
      · exact beN_lt _ _ x hx

/- keys of at most a block -/
def rowU (L : Nat) : List Nat := List.replicate L 1 ++ List.replicate (64 - L) 0
theorem zero_words : ∀ j, j < 16 → nthN (wordsN (List.replicate 64 0)) j = 0 := by decide
theorem aff_lt {b : Nat} (hb : b < 256) : ∀ (U V : List Nat), (∀ k, (U.getD k 0 = 0 ∧ V.getD k 0 < 256) ∨ (U.getD k 0 = 1 ∧ V.getD k 0 = 0)) → ∀ x ∈ aff b U V, x < 256
  | [], _, _, x, hx => by cases hx
  | _ :: _, [], _, x, hx => by cases hx
  | u :: U, v :: V, h, x, hx => by
    rcases List.mem_cons.1 (show x ∈ (b * u + v) :: aff b U V from hx) with rfl | hx
    · have := h 0
      simp only [List.getD_cons_zero] at this
      rcases this with ⟨rfl, hv⟩ | ⟨rfl, rfl⟩ <;> omega
    · exact aff_lt hb U V (fun k => by have := h (k + 1); simpa only [List.getD_cons_succ] using this) x hx
theorem rep_cat (L m x : Nat) : List.replicate (L + m) x = List.replicate L x ++ List.replicate m x := by rw [List.replicate_append_replicate]
theorem short_row (b : Nat) {L : Nat} (hL : L ≤ 64) : aff b (rowU L) (List.replicate 64 0) = List.replicate L b ++ List.replicate (64 - L) 0 := by
  unfold rowU
  have e : List.replicate 64 0 = List.replicate L 0 ++ List.replicate (64 - L) 0 := by rw [← rep_cat]; congr 1; omega
  rw [e, aff_app b _ _ _ _ (by simp), aff_one]
  have := aff_no b (List.replicate (64 - L) 0)
  rw [List.length_replicate] at this
  rw [this]
theorem short_key {L b : Nat} (hL : L ≤ 64) : hkeyL (List.replicate L (UInt8.ofNat b)) = byts (aff b (rowU L) (List.replicate 64 0)) := by
  rw [short_row b hL, byts_app, byts_rep, byts_rep]
  unfold hkeyL keyS
  rw [if_neg (by rw [List.length_replicate]; omega), List.length_replicate]
  rfl
theorem getD_rep (n x k : Nat) : (List.replicate n x).getD k 0 = if k < n then x else 0 := by
  rw [List.getD_eq_getElem?_getD, List.getElem?_replicate]
  split <;> rfl
theorem getD_app (a b : List Nat) (k : Nat) : (a ++ b).getD k 0 = if k < a.length then a.getD k 0 else b.getD (k - a.length) 0 := by
  rw [List.getD_eq_getElem?_getD]
  split
  · rename_i h; rw [List.getElem?_append_left h, ← List.getD_eq_getElem?_getD]
  · rename_i h; rw [List.getElem?_append_right (by omega), ← List.getD_eq_getElem?_getD]
theorem aff_len (b : Nat) : ∀ (U V : List Nat), U.length = V.length → (aff b U V).length = U.length
  | [], [], _ => rfl
  | u :: U, v :: V, h => by show (aff b U V).length + 1 = U.length + 1; rw [aff_len b U V (by simpa using h)]
theorem short_word {L b : Nat} (hL : L ≤ 64) (hb : b < 256) {j : Nat} (hj : j < 16) : wordAt (hkeyL (List.replicate L (UInt8.ofNat b))) j = b * nthN (wordsN (rowU L)) j := by
  have hlen : (rowU L).length = (List.replicate 64 0).length := by unfold rowU; simp; omega
  rw [short_key hL, ← words_at j _ (aff_lt hb _ _ (fun k => ?_)) (by rw [aff_len b _ _ hlen, hlen, List.length_replicate]; omega), aff_words b j _ _ hlen, zero_words j hj, Nat.add_zero]
  unfold rowU
  rw [getD_rep, getD_app, getD_rep, getD_rep]
  repeat' split
  all_goals first | exact .inl ⟨rfl, by omega⟩ | exact .inr ⟨rfl, rfl⟩
/- keys of more than a block: their digest -/
def tailH (L : Nat) : List Nat := 128 :: (List.replicate (padN L) 0 ++ beN (8 * L) 8)
def rowHU (L : Nat) : List Nat := List.replicate L 1 ++ List.replicate (128 - L) 0
def rowHV (L : Nat) : List Nat := List.replicate L 0 ++ tailH L
theorem tailH_len {L : Nat} (h : L = 65 ∨ L = 100) : (tailH L).length = 128 - L := by rcases h with rfl | rfl <;> rfl
theorem long_pad {L : Nat} (h : L = 65 ∨ L = 100) (b : Nat) : padL (List.replicate L (UInt8.ofNat b)) = byts (aff b (rowHU L) (rowHV L)) := by
  have h1 := tailH_len h
  unfold rowHU rowHV
  rw [aff_app b _ _ _ _ (by simp), aff_one, ← h1, aff_no, byts_app, byts_rep]
  unfold padL tailH
  rw [List.length_replicate]
  show _ = _ ++ (UInt8.ofNat 128 :: byts (_ ++ _))
  rw [byts_app, byts_rep, beN_byts]
  rfl
theorem aff_drop (b : Nat) : ∀ (k : Nat) (U V : List Nat), (aff b U V).drop k = aff b (U.drop k) (V.drop k)
  | 0, _, _ => rfl
  | k + 1, [], V => by simp [aff]
  | k + 1, u :: U, [] => by simp [aff]
  | k + 1, u :: U, v :: V => by show (aff b U V).drop k = _; rw [aff_drop b k]; rfl
theorem aff_take (b : Nat) : ∀ (k : Nat) (U V : List Nat), (aff b U V).take k = aff b (U.take k) (V.take k)
  | 0, _, _ => by simp [aff]
  | k + 1, [], V => by simp [aff]
  | k + 1, u :: U, [] => by simp [aff]
  | k + 1, u :: U, v :: V => by show (b * u + v) :: (aff b U V).take k = _; rw [aff_take b k]; rfl
theorem tailH_lt (L : Nat) : ∀ x ∈ tailH L, x < 256 := by
  intro x hx
  rcases List.mem_cons.1 hx with rfl | hx
  · omega
  · rcases List.mem_append.1 hx with hx | hx
    · rw [(List.mem_replicate.1 hx).2]; omega
    · exact beN_lt _ _ x hx
theorem long_word {L b : Nat} (h : L = 65 ∨ L = 100) (hb : b < 256) (k : Nat) (hk : k < 2) {j : Nat} (hj : j < 16) :
    wordAt (((padL (List.replicate L (UInt8.ofNat b))).drop (64 * k)).take 64) j = b * nthN (wordsN (((rowHU L).drop (64 * k)).take 64)) j + nthN (wordsN (((rowHV L).drop (64 * k)).take 64)) j := by
  have h1 := tailH_len h
  have hL : L ≤ 100 := by omega
  have l1 : (rowHU L).length = 128 := by unfold rowHU; simp; omega
  have l2 : (rowHV L).length = 128 := by unfold rowHV; simp [h1]; omega
  have hlt : ∀ x ∈ aff b (rowHU L) (rowHV L), x < 256 := aff_lt hb _ _ (fun k => by
    unfold rowHU rowHV
    rw [getD_app, getD_app, getD_rep, getD_rep, getD_rep, List.length_replicate, List.length_replicate]
    by_cases c : k < L
    · rw [if_pos c, if_pos c, if_pos c, if_pos c]; exact .inr ⟨rfl, rfl⟩
    · rw [if_neg c, if_neg c]
      refine .inl ⟨by split <;> rfl, ?_⟩
      rw [List.getD_eq_getElem?_getD]
      cases e : (tailH L)[k - L]? with
      | none => show (0 : Nat) < 256; omega
      | some x => exact tailH_lt L x (List.mem_of_getElem? e))
  have lk : (((rowHU L).drop (64 * k)).take 64).length = 64 := by rw [List.length_take, List.length_drop, l1]; omega
  have lk2 : (((rowHV L).drop (64 * k)).take 64).length = 64 := by rw [List.length_take, List.length_drop, l2]; omega
  rw [long_pad h, byts_block, ← words_at j _ (fun x hx => hlt x (List.mem_of_mem_drop (List.mem_of_mem_take hx))) (by rw [aff_drop, aff_take, aff_len b _ _ (by rw [lk, lk2]), lk]; omega), aff_drop, aff_take, aff_words b j _ _ (by rw [lk, lk2])]
/-- the bytes 0, 1, .. -/
def upto (w : Nat) : Nat := pack (fun b => b) w
theorem word_pack (w c d : Nat) : Nat.add (Nat.mul (upto w) c) (Nat.mul (onesN w) d) = pack (fun b => b * c + d) w := by
  show pack (fun b => b) w * c + onesN w * d = _
  rw [pack_mul, ones_mul, pack_add]
theorem word_pack0 (w c : Nat) : Nat.mul (upto w) c = pack (fun b => b * c) w := pack_mul _ _ _
noncomputable def pHashW (u ones L k j : Nat) : Nat := Nat.add (Nat.mul u (nthN (wordsN (List.take 64 (List.drop (Nat.mul 64 k) (rowHU L)))) j)) (Nat.mul ones (nthN (wordsN (List.take 64 (List.drop (Nat.mul 64 k) (rowHV L)))) j))
noncomputable def pHash (u M ones L : Nat) : P8 := pComp M ones M (fun x => x) roundK (pComp M ones M (fun x => x) roundK (pStart ones) (pHashW u ones L 0)) (pHashW u ones L 1)
theorem pHashW_eq {w L : Nat} (hw : w ≤ 256) (h : L = 65 ∨ L = 100) {k : Nat} (hk : k < 2) {j : Nat} (hj : j < 16) : pHashW (upto w) (onesN w) L k j = pack (fun b => wordAt (((padL (List.replicate L (UInt8.ofNat b))).drop (64 * k)).take 64) j) w := by
  unfold pHashW
  rw [word_pack]
  exact pack_congr fun b hb => (long_word h (Nat.lt_of_lt_of_le hb hw) k hk hj).symm
theorem pHash_eq {w L : Nat} (hw : w ≤ 256) (h : L = 65 ∨ L = 100) : pHash (upto w) (maskN w) (onesN w) L = P8s w (fun b => stF (padL (List.replicate L (UInt8.ofNat b))) 2) := by
  unfold pHash
  rw [pStart_eq, pComp_comp (m := w) (lift_id w) (B := fun b => ((padL (List.replicate L (UInt8.ofNat b))).drop (64 * 0)).take 64) (fun _ => start0_ok) (fun j hj => pHashW_eq hw h (by omega) hj),
    pComp_comp (m := w) (lift_id w) (B := fun b => ((padL (List.replicate L (UInt8.ofNat b))).drop (64 * 1)).take 64) (fun _ => compS_ok _ _) (fun j hj => pHashW_eq hw h (by omega) hj)]
  rfl
theorem long_key {L b : Nat} (h : L = 65 ∨ L = 100) : hkeyL (List.replicate L (UInt8.ofNat b)) = stB (stF (padL (List.replicate L (UInt8.ofNat b))) 2) ++ List.replicate 32 0 := by
  have e : keyS (List.replicate L (UInt8.ofNat b)) = stB (stF (padL (List.replicate L (UInt8.ofNat b))) 2) := by
    unfold keyS digL
    rw [if_pos (by rw [List.length_replicate]; omega), padL_len, List.length_replicate]
    have h2 : (L + 9 + padN L) / 64 = 2 := by rcases h with rfl | rfl <;> rfl
    rw [h2]
  unfold hkeyL
  rw [e, stB_len]
/-- the words of the digests, as a key -/
noncomputable def pDig (s : P8) (j : Nat) : Nat := P8.rec (motive := fun _ => Nat) (fun a b c d e f g h => nthN [a, b, c, d, e, f, g, h, 0, 0, 0, 0, 0, 0, 0, 0] j) s
theorem pDig_eq {n : Nat} {D : Nat → St} (hD : ∀ i, (D i).ok) {j : Nat} (hj : j < 16) : pDig (P8s n D) j = pack (fun i => wordAt (stB (D i) ++ List.replicate 32 0) j) n := by
  show nthN [pack (fun i => (D i).a) n, pack (fun i => (D i).b) n, pack (fun i => (D i).c) n, pack (fun i => (D i).d) n, pack (fun i => (D i).e) n, pack (fun i => (D i).f) n, pack (fun i => (D i).g) n, pack (fun i => (D i).h) n, 0, 0, 0, 0, 0, 0, 0, 0] j = _
  have e : ∀ q : Nat → Nat, (∀ i, q i = nthN (w8 (D i) [0, 0, 0, 0, 0, 0, 0, 0]) j) → pack (fun i => wordAt (stB (D i) ++ List.replicate 32 0) j) n = pack q n := fun q hq => pack_congr fun i _ => (key_words (hD i) hj).trans (hq i).symm
  match j, hj, e with
  | 0, _, e => exact (e (fun i => (D i).a) (fun i => rfl)).symm
  | 1, _, e => exact (e (fun i => (D i).b) (fun i => rfl)).symm
  | 2, _, e => exact (e (fun i => (D i).c) (fun i => rfl)).symm
  | 3, _, e => exact (e (fun i => (D i).d) (fun i => rfl)).symm
  | 4, _, e => exact (e (fun i => (D i).e) (fun i => rfl)).symm
  | 5, _, e => exact (e (fun i => (D i).f) (fun i => rfl)).symm
  | 6, _, e => exact (e (fun i => (D i).g) (fun i => rfl)).symm
  | 7, _, e => exact (e (fun i => (D i).h) (fun i => rfl)).symm
  | 8, _, e => exact (pack_zero n).symm.trans (e (fun i => 0) (fun i => rfl)).symm
  | 9, _, e => exact (pack_zero n).symm.trans (e (fun i => 0) (fun i => rfl)).symm
  | 10, _, e => exact (pack_zero n).symm.trans (e (fun i => 0) (fun i => rfl)).symm
  | 11, _, e => exact (pack_zero n).symm.trans (e (fun i => 0) (fun i => rfl)).symm
  | 12, _, e => exact (pack_zero n).symm.trans (e (fun i => 0) (fun i => rfl)).symm
  | 13, _, e => exact (pack_zero n).symm.trans (e (fun i => 0) (fun i => rfl)).symm
  | 14, _, e => exact (pack_zero n).symm.trans (e (fun i => 0) (fun i => rfl)).symm
  | 15, _, e => exact (pack_zero n).symm.trans (e (fun i => 0) (fun i => rfl)).symm
  | j + 16, h, _ => exact absurd h (by omega)
/- rows of lanes, one behind another -/
theorem pack_cat (f : Nat → Nat) (n : Nat) : ∀ m, pack f (n + m) = 2 ^ (64 * n) * pack (fun i => f (n + i)) m + pack f n
  | 0 => by simp [pack]
  | m + 1 => by
    show 2 ^ (64 * (n + m)) * f (n + m) + pack f (n + m) = 2 ^ (64 * n) * (2 ^ (64 * m) * f (n + m) + pack (fun i => f (n + i)) m) + pack f n
    have e : 2 ^ (64 * (n + m)) = 2 ^ (64 * n) * 2 ^ (64 * m) := by rw [← Nat.pow_add, Nat.mul_add]
    rw [pack_cat f n m, e, Nat.mul_add (2 ^ (64 * n)), Nat.mul_assoc, Nat.add_assoc]
def catE (E : Nat) : List Nat → Nat
  | [] => 0
  | p :: ps => Nat.add (Nat.mul E (catE E ps)) p
theorem catE_eq (w : Nat) : ∀ (ps : List Nat) (f : Nat → Nat), (∀ q p, ps[q]? = some p → p = pack (fun b => f (w * q + b)) w) → catE (Nat.pow 2 (Nat.mul 64 w)) ps = pack f (w * ps.length)
  | [], _, _ => rfl
  | p :: ps, f, h => by
    have h0 := h 0 p rfl
    have ih := catE_eq w ps (fun i => f (w + i)) (fun q p hp => by rw [h (q + 1) p hp]; exact pack_congr fun b _ => by rw [show w * (q + 1) + b = w + (w * q + b) by rw [Nat.mul_add]; omega])
    rw [List.length_cons, show w * (ps.length + 1) = w + w * ps.length by rw [Nat.mul_add]; omega, pack_cat f w, ← ih]
    have e0 : p = pack f w := by rw [h0]; exact pack_congr fun b _ => by rw [show w * 0 + b = b by omega]
    rw [← e0]
    rfl
/-- the lengths of the keys -/
def lens : List Nat := [1, 20, 32, 63, 64, 65, 100]
def keyB (i : Nat) : List UInt8 := List.replicate (lens.getD (i / 256) 0) (UInt8.ofNat (i % 256))
noncomputable def pShort (u L j : Nat) : Nat := Nat.mul u (nthN (wordsN (rowU L)) j)
noncomputable def pWord (E u : Nat) (h65 h100 : P8) (j : Nat) : Nat := catE E [pShort u 1 j, pShort u 20 j, pShort u 32 j, pShort u 63 j, pShort u 64 j, pDig h65 j, pDig h100 j]
theorem pShort_eq {w L : Nat} (hw : w ≤ 256) (hL : L ≤ 64) {j : Nat} (hj : j < 16) : pShort (upto w) L j = pack (fun b => wordAt (hkeyL (List.replicate L (UInt8.ofNat b))) j) w := by
  unfold pShort
  rw [word_pack0]
  exact pack_congr fun b hb => (short_word hL (Nat.lt_of_lt_of_le hb hw) hj).symm
theorem keyB_at {w q b : Nat} (hw : w = 256) (hb : b < w) : keyB (w * q + b) = List.replicate (lens.getD q 0) (UInt8.ofNat b) := by
  subst hw
  unfold keyB
  rw [show (256 * q + b) / 256 = q by omega, show (256 * q + b) % 256 = b by omega]
theorem pWord_eq {w n : Nat} (hw : w = 256) (hn : n = w * 7) {j : Nat} (hj : j < 16) : pWord (Nat.pow 2 (Nat.mul 64 w)) (upto w) (pHash (upto w) (maskN w) (onesN w) 65) (pHash (upto w) (maskN w) (onesN w) 100) j = pack (fun i => wordAt (hkeyL (keyB i)) j) n := by
  rw [hn]
  refine catE_eq w [pShort (upto w) 1 j, pShort (upto w) 20 j, pShort (upto w) 32 j, pShort (upto w) 63 j, pShort (upto w) 64 j, pDig _ j, pDig _ j] (fun i => wordAt (hkeyL (keyB i)) j) (fun q p hp => ?_)
  have sh : ∀ L, L ≤ 64 → lens.getD q 0 = L → p = pShort (upto w) L j → p = pack (fun b => wordAt (hkeyL (keyB (w * q + b))) j) w := fun L hL hq e => by
    rw [e, pShort_eq (Nat.le_of_eq hw) hL hj]
    exact pack_congr fun b hb => by rw [keyB_at hw hb, hq]
  have lo : ∀ L, (L = 65 ∨ L = 100) → lens.getD q 0 = L → p = pDig (pHash (upto w) (maskN w) (onesN w) L) j → p = pack (fun b => wordAt (hkeyL (keyB (w * q + b))) j) w := fun L hL hq e => by
    rw [e, pHash_eq (Nat.le_of_eq hw) hL, pDig_eq (fun b => stF_ok _ _) hj]
    exact pack_congr fun b hb => by rw [keyB_at hw hb, hq, long_key hL]
  match q, hp, sh, lo with
  | 0, hp, sh, _ => exact sh 1 (by omega) rfl (Option.some.inj hp).symm
  | 1, hp, sh, _ => exact sh 20 (by omega) rfl (Option.some.inj hp).symm
  | 2, hp, sh, _ => exact sh 32 (by omega) rfl (Option.some.inj hp).symm
  | 3, hp, sh, _ => exact sh 63 (by omega) rfl (Option.some.inj hp).symm
  | 4, hp, sh, _ => exact sh 64 (by omega) rfl (Option.some.inj hp).symm
  | 5, hp, _, lo => exact lo 65 (.inl rfl) rfl (Option.some.inj hp).symm
  | 6, hp, _, lo => exact lo 100 (.inr rfl) rfl (Option.some.inj hp).symm
  | q + 7, hp, _, _ => cases hp
/-- ones in n lanes, in closed form -/
def onesC (n : Nat) : Nat := Nat.div (Nat.sub (Nat.pow 2 (Nat.mul 64 n)) 1) 18446744073709551615
theorem ones_pow (n : Nat) : onesN n * 18446744073709551615 + 1 = 2 ^ (64 * n) := by
  rw [ones_mul]
  induction n with
  | zero => rfl
  | succ n ih =>
    show 2 ^ (64 * n) * 18446744073709551615 + pack _ n + 1 = _
    rw [show 64 * (n + 1) = 64 * n + 64 by omega, Nat.pow_add, Nat.add_assoc, ih, show (2 : Nat) ^ 64 = 18446744073709551615 + 1 from rfl]
    generalize 2 ^ (64 * n) = x
    omega
theorem ones_eq (n : Nat) : onesC n = onesN n := by
  show (2 ^ (64 * n) - 1) / 18446744073709551615 = _
  rw [← ones_pow n, Nat.add_sub_cancel, Nat.mul_div_cancel _ (by omega)]
theorem mask_mul (n : Nat) : Nat.mul (onesC n) 4294967295 = maskN n := by rw [ones_eq]; exact ones_mul n 4294967295
noncomputable def allB {α : Type} (f : α → Bool) (l : List α) : Bool := List.rec (motive := fun _ => Bool) true (fun t _ ih => Bool.rec (motive := fun _ => Bool) false ih (f t)) l
theorem allB_all {α : Type} {f : α → Bool} : ∀ {l : List α}, allB f l = true → ∀ t ∈ l, f t = true
  | [], _, t, h => by cases h
  | u :: us, h, t, ht => by
    have h' : Bool.rec (motive := fun _ => Bool) false (allB f us) (f u) = true := h
    cases e : f u with
    | false => rw [e] at h'; cases h'
    | true =>
      rw [e] at h'
      rcases List.mem_cons.1 ht with rfl | ht
      · exact e
      · exact allB_all h' t ht
/-- the codes of this text, and of it with one byte more, are apart under all keys -/
noncomputable def apartT (M ones : Nat) (si so : P8) (t : List Nat) : Bool := apart M ones (lastW (pMac M ones si so (tailN t))) (lastW (pMac M ones si so (tailN (t ++ [97]))))
noncomputable def pKeyC (n w c : Nat) : P8 :=
  pKey (Nat.mul (onesC n) 4294967295) (onesC n) c (pWord (Nat.pow 2 (Nat.mul 64 w)) (upto w) (pHash (upto w) (Nat.mul (onesC w) 4294967295) (onesC w) 65) (pHash (upto w) (Nat.mul (onesC w) 4294967295) (onesC w) 100))
noncomputable def chkP (n w : Nat) (ts : List (List Nat)) : Bool :=
  allB (apartT (Nat.mul (onesC n) 4294967295) (onesC n) (pKeyC n w 909522486) (pKeyC n w 1549556828)) ts
theorem pKeyC_eq {w n : Nat} (hw : w = 256) (hn : n = w * 7) (e : UInt8) : pKeyC n w (e.toNat * 16843009) = P8s n (fun i => compS start0 (xorL (hkeyL (keyB i)) e)) := by
  unfold pKeyC
  rw [mask_mul, mask_mul, ones_eq, ones_eq]
  exact pKey_eq e (fun i => hkeyL_len _) (fun j hj => pWord_eq hw hn hj)
theorem lastW_eq (n : Nat) (S : Nat → St) : lastW (P8s n S) = pack (fun i => (S i).h) n := rfl
theorem chk_ne {w n : Nat} (hw : w = 256) (hn : n = w * 7) {ts : List (List Nat)} (h : chkP n w ts = true) {t : List Nat} (ht : t ∈ ts) (hx : ∀ x ∈ t, x < 256) {i : Nat} (hi : i < n) : hmacL (keyB i) (byts t) ≠ hmacL (keyB i) (byts (t ++ [97])) := by
  have hA := allB_all h t ht
  have k1 := pKeyC_eq hw hn 54
  have k2 := pKeyC_eq hw hn 92
  rw [show (54 : UInt8).toNat * 16843009 = 909522486 from rfl] at k1
  rw [show (92 : UInt8).toNat * 16843009 = 1549556828 from rfl] at k2
  unfold apartT at hA
  rw [k1, k2, mask_mul, ones_eq, pMac_eq (tailN_lt hx) (tailN_byts t), pMac_eq (tailN_lt (fun x h => by
    rcases List.mem_append.1 h with h | h
    · exact hx x h
    · rw [List.mem_singleton.1 h]; omega)) (tailN_byts (t ++ [97])), lastW_eq, lastW_eq] at hA
  have hne := apart_ne (fun i => (macS_ok _ _).2.2.2.2.2.2.2) (fun i => (macS_ok _ _).2.2.2.2.2.2.2) hA i hi
  intro e
  rw [hmacL_S, hmacL_S] at e
  exact hne (stB_h (macS_ok _ _) (macS_ok _ _) e)
end Go.Proofs.YtmhekefjlepfpaaDoor

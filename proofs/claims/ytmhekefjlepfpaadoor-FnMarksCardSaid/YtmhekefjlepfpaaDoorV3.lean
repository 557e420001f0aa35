/- Blocks over lanes: what they have to do with SHA-256 and HMAC in plain Lean. -/
import Derived.Test.YtmhekefjlepfpaaDoorS2
import Derived.Test.YtmhekefjlepfpaaDoorV2
namespace Go.Proofs.YtmhekefjlepfpaaDoor
set_option linter.unusedVariables false
set_option linter.unusedSimpArgs false

/-- the words of a block's schedule, without end -/
def wS (l : List UInt8) (j : Nat) : Nat := (wsch l (j + 1)).getD j 0
theorem wsch_get (l : List UInt8) : ∀ k j, j < k → (wsch l k).getD j 0 = wS l j
  | 0, j, h => absurd h (by omega)
  | k + 1, j, h => by
    by_cases e : j = k
    · subst e; rfl
    · rw [← wsch_get l k j (by omega)]
      show (wsch l k ++ _).getD j 0 = _
      rw [List.getD_eq_getElem?_getD, List.getElem?_append_left (by rw [wsch_len]; omega), ← List.getD_eq_getElem?_getD]
theorem wS_last (l : List UInt8) (k : Nat) : wS l k = if k < 16 then wordAt l k else wnext (wsch l k) k := by
  show (wsch l k ++ _).getD k 0 = _
  rw [List.getD_eq_getElem?_getD, List.getElem?_append_right (by rw [wsch_len]; omega), wsch_len]
  simp
theorem wS_word (l : List UInt8) {j : Nat} (h : j < 16) : wS l j = wordAt l j := by rw [wS_last, if_pos h]
theorem wS_seq (l : List UInt8) : Sched (wS l) := fun j => ⟨wsch_getD_lt l _ _, by
  rw [wS_last, if_neg (by omega)]
  unfold wnext wnx
  rw [show j + 16 - 16 = j by omega, show j + 16 - 7 = j + 9 by omega, show j + 16 - 15 = j + 1 by omega, show j + 16 - 2 = j + 14 by omega,
    wsch_get l _ j (by omega), wsch_get l _ (j + 9) (by omega), wsch_get l _ (j + 1) (by omega), wsch_get l _ (j + 14) (by omega)]⟩
theorem roundK_lt : ∀ c ∈ roundK, c < 4294967296 := by decide +kernel
theorem rRun_all (l : List UInt8) (s : St) : ∀ d k, k + d = 64 → rRun (wS l) (roundK.drop k) k (srounds (wsch l 64) s k) = srounds (wsch l 64) s 64
  | 0, k, h => by
    obtain rfl : k = 64 := by omega
    rw [show roundK.drop 64 = [] from rfl]
    rfl
  | d + 1, k, h => by
    have hk : k < roundK.length := by rw [show roundK.length = 64 from rfl]; omega
    rw [List.drop_eq_getElem_cons hk]
    show rRun (wS l) (roundK.drop (k + 1)) (k + 1) (sround roundK[k] (wS l k) (srounds (wsch l 64) s k)) = _
    rw [← rRun_all l s d (k + 1) (by omega), ← wsch_get l 64 k (by omega)]
    show _ = rRun _ _ _ (sround (roundK.getD k 0) ((wsch l 64).getD k 0) (srounds (wsch l 64) s k))
    rw [show roundK.getD k 0 = roundK[k] by rw [List.getD_eq_getElem?_getD, List.getElem?_eq_getElem hk]; rfl]
theorem rRun_comp (l : List UInt8) (s : St) : addSt (rRun (wS l) roundK 0 s) s = compS s l := by
  have := rRun_all l s 64 0 rfl
  rw [show roundK.drop 0 = roundK from rfl] at this
  show addSt (rRun (wS l) roundK 0 (srounds (wsch l 64) s 0)) s = _
  rw [this]
  rfl
/-- a block over lanes is a block in each lane -/
theorem pComp_comp {n m : Nat} {lift : Nat → Nat} {σ : Nat → Nat} (hl : ∀ f, Lt f 4294967296 → lift (pack f m) = pack (fun i => f (σ i)) n) {B : Nat → List UInt8}
    {S : Nat → St} (hS : ∀ i, (S i).ok) {w : Nat → Nat} (hw : ∀ j, j < 16 → w j = pack (fun i => wordAt (B i) j) m) :
    pComp (maskN n) (onesN n) (maskN m) lift roundK (P8s n S) w = P8s n (fun i => compS (S i) (B (σ i))) := by
  rw [pComp_eq (W := fun i => wS (B i)) hl (fun i => wS_seq (B i)) roundK_lt hS (fun j hj => (hw j hj).trans (pack_congr fun i _ => (wS_word (B i) hj).symm))]
  unfold P8s
  simp only [rRun_comp]

/- words of rows of bytes, as the kernel reckons them -/
def wordsN : List Nat → List Nat
  | a :: b :: c :: d :: r => Nat.add (Nat.mul (Nat.add (Nat.mul (Nat.add (Nat.mul a 256) b) 256) c) 256) d :: wordsN r
  | _ => []
def nthN : List Nat → Nat → Nat
  | [], _ => 0
  | x :: _, 0 => x
  | _ :: r, j + 1 => nthN r j
theorem nthN_getD : ∀ (l : List Nat) (j : Nat), nthN l j = l.getD j 0
  | [], j => by simp [nthN]
  | x :: _, 0 => rfl
  | _ :: r, j + 1 => by rw [nthN, nthN_getD r j]; simp
/-- a row of bytes -/
def byts (l : List Nat) : List UInt8 := l.map UInt8.ofNat
theorem byts_len (l : List Nat) : (byts l).length = l.length := by simp [byts]
theorem byts_app (a b : List Nat) : byts (a ++ b) = byts a ++ byts b := by simp [byts]
theorem or_word {a b c d : Nat} (hb : b < 256) (hc : c < 256) (hd : d < 256) : ((a * 16777216 ||| b * 65536) ||| c * 256) ||| d = ((a * 256 + b) * 256 + c) * 256 + d := by
  rw [Nat.or_assoc, Nat.or_assoc, show c * 256 ||| d = c * 256 + d by have := Nat.two_pow_add_eq_or_of_lt (i := 8) (b := d) hd c; rw [show c * 256 = 2 ^ 8 * c by omega]; exact this.symm,
    show b * 65536 ||| (c * 256 + d) = b * 65536 + (c * 256 + d) by have := Nat.two_pow_add_eq_or_of_lt (i := 16) (b := c * 256 + d) (by omega) b; rw [show b * 65536 = 2 ^ 16 * b by omega]; exact this.symm,
    show a * 16777216 ||| (b * 65536 + (c * 256 + d)) = a * 16777216 + (b * 65536 + (c * 256 + d)) by have := Nat.two_pow_add_eq_or_of_lt (i := 24) (b := b * 65536 + (c * 256 + d)) (by omega) a; rw [show a * 16777216 = 2 ^ 24 * a by omega]; exact this.symm]
  omega
theorem words_at : ∀ (j : Nat) (l : List Nat), (∀ x ∈ l, x < 256) → 4 * j + 3 < l.length → nthN (wordsN l) j = wordAt (byts l) j
  | _, [], _, h => absurd h (by simp)
  | _, [_], _, h => absurd h (by simp)
  | _, [_, _], _, h => absurd h (by simp)
  | _, [_, _, _], _, h => absurd h (by simp)
  | 0, a :: b :: c :: d :: r, hx, _ => by
    have ha := hx a (by simp)
    have hb := hx b (by simp)
    have hc := hx c (by simp)
    have hd := hx d (by simp)
    have t : ∀ x, x < 256 → (UInt8.ofNat x).toNat = x := fun x h => by rw [UInt8.toNat_ofNat']; exact Nat.mod_eq_of_lt h
    show ((a * 256 + b) * 256 + c) * 256 + d = (((UInt8.ofNat a).toNat * 16777216 ||| (UInt8.ofNat b).toNat * 65536) ||| (UInt8.ofNat c).toNat * 256) ||| (UInt8.ofNat d).toNat
    rw [t a ha, t b hb, t c hc, t d hd, or_word hb hc hd]
  | j + 1, a :: b :: c :: d :: r, hx, h => by
    have e : nthN (wordsN (a :: b :: c :: d :: r)) (j + 1) = nthN (wordsN r) j := rfl
    rw [e, words_at j r (fun x hr => hx x (by simp [hr])) (by simp only [List.length_cons] at h; omega)]
    unfold wordAt
    simp only [byts, List.map_cons, show 4 * (j + 1) = 4 * j + 1 + 1 + 1 + 1 by omega, show 4 * j + 1 + 1 + 1 + 1 + 1 = 4 * j + 1 + 1 + 1 + 1 + 1 from rfl, show 4 * j + 1 + 1 + 1 + 1 + 2 = 4 * j + 2 + 1 + 1 + 1 + 1 by omega, show 4 * j + 1 + 1 + 1 + 1 + 3 = 4 * j + 3 + 1 + 1 + 1 + 1 by omega, List.getD_cons_succ]
/-- rows of bytes that hang on one byte -/
def aff (b : Nat) : List Nat → List Nat → List Nat
  | u :: U, v :: V => (b * u + v) :: aff b U V
  | _, _ => []
theorem aff_words (b : Nat) : ∀ (j : Nat) (U V : List Nat), U.length = V.length → nthN (wordsN (aff b U V)) j = b * nthN (wordsN U) j + nthN (wordsN V) j
  | j, [], [], _ => by simp [aff, wordsN, nthN]
  | j, [_], [_], _ => by simp [aff, wordsN, nthN]
  | j, [_, _], [_, _], _ => by simp [aff, wordsN, nthN]
  | j, [_, _, _], [_, _, _], _ => by simp [aff, wordsN, nthN]
  | 0, u0 :: u1 :: u2 :: u3 :: U, v0 :: v1 :: v2 :: v3 :: V, h => by
    show (((b * u0 + v0) * 256 + (b * u1 + v1)) * 256 + (b * u2 + v2)) * 256 + (b * u3 + v3) = b * (((u0 * 256 + u1) * 256 + u2) * 256 + u3) + (((v0 * 256 + v1) * 256 + v2) * 256 + v3)
    simp only [Nat.mul_add, Nat.add_mul, ← Nat.mul_assoc]
    omega
  | j + 1, u0 :: u1 :: u2 :: u3 :: U, v0 :: v1 :: v2 :: v3 :: V, h => by
    show nthN (wordsN (aff b U V)) j = b * nthN (wordsN U) j + nthN (wordsN V) j
    exact aff_words b j U V (by simpa using h)
theorem aff_app (b : Nat) : ∀ (U U' V V' : List Nat), U.length = V.length → aff b (U ++ U') (V ++ V') = aff b U V ++ aff b U' V'
  | [], _, [], _, _ => rfl
  | u :: U, U', v :: V, V', h => by
    show (b * u + v) :: aff b (U ++ U') (V ++ V') = (b * u + v) :: (aff b U V ++ aff b U' V')
    rw [aff_app b U U' V V' (by simpa using h)]
theorem aff_one (b : Nat) : ∀ n, aff b (List.replicate n 1) (List.replicate n 0) = List.replicate n b
  | 0 => rfl
  | n + 1 => by
    show (b * 1 + 0) :: aff b (List.replicate n 1) (List.replicate n 0) = b :: List.replicate n b
    rw [aff_one b n, Nat.mul_one, Nat.add_zero]
theorem aff_no (b : Nat) : ∀ V : List Nat, aff b (List.replicate V.length 0) V = V
  | [] => rfl
  | v :: V => by
    show (b * 0 + v) :: aff b (List.replicate V.length 0) V = v :: V
    rw [aff_no b V, Nat.mul_zero, Nat.zero_add]
theorem xor_word {a b c d e : Nat} (hb : b < 256) (hc : c < 256) (hd : d < 256) (he : e < 256) (ha : a < 256) :
    ((((a ^^^ e) * 16777216 ||| (b ^^^ e) * 65536) ||| (c ^^^ e) * 256) ||| (d ^^^ e)) = (((a * 16777216 ||| b * 65536) ||| c * 256) ||| d) ^^^ (e * 16843009) := by
  have x8 : ∀ x, x < 256 → x ^^^ e < 256 := fun x hx => Nat.xor_lt_two_pow (n := 8) hx he
  rw [or_word (x8 b hb) (x8 c hc) (x8 d hd), or_word hb hc hd, show e * 16843009 = ((e * 256 + e) * 256 + e) * 256 + e by omega]
  have step : ∀ p q x, x < 256 → ((p ^^^ q) * 256 + (x ^^^ e)) = (p * 256 + x) ^^^ (q * 256 + e) := fun p q x hx => by
    refine Nat.eq_of_testBit_eq fun j => ?_
    rw [Nat.testBit_xor, Nat.mul_comm _ 256, Nat.mul_comm p, Nat.mul_comm q, show (256 : Nat) = 2 ^ 8 from rfl, Nat.testBit_two_pow_mul_add _ (x8 x hx), Nat.testBit_two_pow_mul_add _ hx, Nat.testBit_two_pow_mul_add _ he]
    split
    · rw [Nat.testBit_xor]
    · rw [Nat.testBit_xor]
  rw [step a e b hb, step _ _ c hc, step _ _ d hd]
theorem xorL_word (l : List UInt8) (e : UInt8) {j : Nat} (h : 4 * j + 3 < l.length) : wordAt (xorL l e) j = wordAt l j ^^^ (e.toNat * 16843009) := by
  have g : ∀ i, i < l.length → ((xorL l e).getD i 0).toNat = (l.getD i 0).toNat ^^^ e.toNat := fun i hi => by
    rw [List.getD_eq_getElem?_getD, List.getD_eq_getElem?_getD, xorL, List.getElem?_map, List.getElem?_eq_getElem hi]
    simp
  unfold wordAt
  rw [g _ (by omega), g _ (by omega), g _ (by omega), g _ (by omega)]
  exact xor_word (UInt8.toNat_lt _) (UInt8.toNat_lt _) (UInt8.toNat_lt _) (UInt8.toNat_lt _) (UInt8.toNat_lt _)
end Go.Proofs.YtmhekefjlepfpaaDoor

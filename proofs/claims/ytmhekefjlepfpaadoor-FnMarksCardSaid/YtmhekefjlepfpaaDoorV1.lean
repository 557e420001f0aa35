/- Lanes: many words in one number, 64 bits each. -/
import Derived.Test.YtmhekefjlepfpaaDoorS
namespace Go.Proofs.YtmhekefjlepfpaaDoor
set_option linter.unusedVariables false
set_option linter.unusedSimpArgs false

/-- n lanes of 64 bits -/
def pack (f : Nat → Nat) : Nat → Nat
  | 0 => 0
  | n + 1 => 2 ^ (64 * n) * f n + pack f n
/-- all lanes are below b -/
def Lt (f : Nat → Nat) (b : Nat) : Prop := ∀ i, f i < b
theorem Lt.mono {f : Nat → Nat} {a b : Nat} (h : Lt f a) (hab : a ≤ b) : Lt f b := fun i => Nat.lt_of_lt_of_le (h i) hab
theorem pack_lt {f : Nat → Nat} (h : Lt f (2 ^ 64)) (n : Nat) : pack f n < 2 ^ (64 * n) := by
  induction n with
  | zero => simp [pack]
  | succ n ih =>
    have h1 := h n
    have e : 2 ^ (64 * (n + 1)) = 2 ^ (64 * n) * 2 ^ 64 := by rw [← Nat.pow_add]; congr 1
    rw [e]
    show 2 ^ (64 * n) * f n + pack f n < _
    have h2 : 2 ^ (64 * n) * (f n + 1) ≤ 2 ^ (64 * n) * 2 ^ 64 := Nat.mul_le_mul_left _ h1
    rw [Nat.mul_add] at h2
    omega
theorem pack_bit {f : Nat → Nat} (h : Lt f (2 ^ 64)) (n k : Nat) : (pack f n).testBit k = (decide (k / 64 < n) && (f (k / 64)).testBit (k % 64)) := by
  induction n with
  | zero => simp [pack]
  | succ n ih =>
    show (2 ^ (64 * n) * f n + pack f n).testBit k = _
    rw [Nat.testBit_two_pow_mul_add _ (pack_lt h n), ih]
    by_cases c : k < 64 * n
    · rw [if_pos c, decide_eq_true (show k / 64 < n by omega), decide_eq_true (show k / 64 < n + 1 by omega)]
    · rw [if_neg c]
      by_cases e : k / 64 = n
      · rw [e, show k - 64 * n = k % 64 by omega]; simp
      · rw [decide_eq_false (show ¬ k / 64 < n + 1 by omega), Bool.false_and]
        exact Nat.testBit_lt_two_pow (Nat.lt_of_lt_of_le (h n) (Nat.pow_le_pow_right (by omega) (by omega)))
theorem pack_ext {x : Nat} {f : Nat → Nat} {n : Nat} (h : Lt f (2 ^ 64)) (e : ∀ i j, j < 64 → x.testBit (64 * i + j) = (decide (i < n) && (f i).testBit j)) : x = pack f n := by
  refine Nat.eq_of_testBit_eq fun k => ?_
  rw [pack_bit h]
  have := e (k / 64) (k % 64) (by omega)
  rw [show 64 * (k / 64) + k % 64 = k by omega] at this
  exact this
theorem pack_at {f : Nat → Nat} (h : Lt f (2 ^ 64)) (n i j : Nat) (hj : j < 64) : (pack f n).testBit (64 * i + j) = (decide (i < n) && (f i).testBit j) := by
  rw [pack_bit h, show (64 * i + j) / 64 = i by omega, show (64 * i + j) % 64 = j by omega]
theorem pack_inj {f g : Nat → Nat} {n : Nat} (hf : Lt f (2 ^ 64)) (hg : Lt g (2 ^ 64)) (h : pack f n = pack g n) (i : Nat) (hi : i < n) : f i = g i := by
  refine Nat.eq_of_testBit_eq fun j => ?_
  by_cases hj : j < 64
  · have := congrArg (fun x => x.testBit (64 * i + j)) h
    simp only [pack_at hf n i j hj, pack_at hg n i j hj, decide_eq_true hi, Bool.true_and] at this
    exact this
  · rw [Nat.testBit_lt_two_pow (Nat.lt_of_lt_of_le (hf i) (Nat.pow_le_pow_right (by omega) (by omega))), Nat.testBit_lt_two_pow (Nat.lt_of_lt_of_le (hg i) (Nat.pow_le_pow_right (by omega) (by omega)))]
theorem pack_congr {f g : Nat → Nat} {n : Nat} (h : ∀ i, i < n → f i = g i) : pack f n = pack g n := by
  induction n with
  | zero => rfl
  | succ n ih => show _ * f n + pack f n = _ * g n + pack g n; rw [ih (fun i hi => h i (by omega)), h n (by omega)]
theorem pack_add (f g : Nat → Nat) (n : Nat) : pack f n + pack g n = pack (fun i => f i + g i) n := by
  induction n with
  | zero => rfl
  | succ n ih => show _ * f n + pack f n + (_ * g n + pack g n) = _ * (f n + g n) + pack _ n; rw [← ih, Nat.mul_add]; omega
theorem pack_mul (f : Nat → Nat) (c n : Nat) : pack f n * c = pack (fun i => f i * c) n := by
  induction n with
  | zero => simp [pack]
  | succ n ih => show (_ * f n + pack f n) * c = _ * (f n * c) + pack _ n; rw [← ih, Nat.add_mul, Nat.mul_assoc]
theorem pack_and {f g : Nat → Nat} (hf : Lt f (2 ^ 64)) (hg : Lt g (2 ^ 64)) (n : Nat) : pack f n &&& pack g n = pack (fun i => f i &&& g i) n :=
  pack_ext (fun i => Nat.and_lt_two_pow _ (hg i)) fun i j hj => by
    rw [Nat.testBit_and, pack_at hf n i j hj, pack_at hg n i j hj, Nat.testBit_and]
    cases decide (i < n) <;> simp
theorem pack_xor {f g : Nat → Nat} (hf : Lt f (2 ^ 64)) (hg : Lt g (2 ^ 64)) (n : Nat) : pack f n ^^^ pack g n = pack (fun i => f i ^^^ g i) n :=
  pack_ext (fun i => Nat.xor_lt_two_pow (hf i) (hg i)) fun i j hj => by
    rw [Nat.testBit_xor, pack_at hf n i j hj, pack_at hg n i j hj, Nat.testBit_xor]
    cases decide (i < n) <;> simp
/-- the mask of the low halves of all lanes -/
def maskN (n : Nat) : Nat := pack (fun _ => 4294967295) n
theorem Lt.mask : Lt (fun _ => 4294967295) (2 ^ 64) := fun _ => show (4294967295 : Nat) < 2 ^ 64 by omega
theorem pack_shift {f : Nat → Nat} (hf : Lt f (2 ^ 64)) (n s : Nat) (hs : s ≤ 32) : (pack f n >>> s) &&& maskN n = pack (fun i => f i / 2 ^ s % 4294967296) n :=
  pack_ext (fun i => Nat.lt_trans (Nat.mod_lt _ (by omega)) (by omega)) fun i j hj => by
    rw [Nat.testBit_and, Nat.testBit_shiftRight, maskN, pack_at Lt.mask n i j hj, show (4294967295 : Nat) = 2 ^ 32 - 1 from rfl, Nat.testBit_two_pow_sub_one, show (4294967296 : Nat) = 2 ^ 32 from rfl, Nat.testBit_mod_two_pow, ← Nat.shiftRight_eq_div_pow, Nat.testBit_shiftRight]
    by_cases h : j < 32
    · rw [show s + (64 * i + j) = 64 * i + (s + j) by omega, pack_at hf n i (s + j) (by omega), decide_eq_true h]
      cases decide (i < n) <;> simp
    · rw [decide_eq_false h]; simp
theorem pack_mask {f : Nat → Nat} (hf : Lt f (2 ^ 64)) (n : Nat) : pack f n &&& maskN n = pack (fun i => f i % 4294967296) n := by
  have := pack_shift hf n 0 (by omega)
  simpa using this
theorem dup_rot {x s : Nat} (hx : x < 4294967296) (h1 : 1 ≤ s) (hs : s ≤ 31) : x * 4294967297 / 2 ^ s % 4294967296 = rotr x s := by
  unfold rotr
  have e1 : (4294967296 : Nat) = 2 ^ s * 2 ^ (32 - s) := by rw [← Nat.pow_add, show s + (32 - s) = 32 by omega]
  have e2 : x * 4294967297 / 2 ^ s = x / 2 ^ s + x * 2 ^ (32 - s) := by
    rw [show x * 4294967297 = x + 2 ^ s * (x * 2 ^ (32 - s)) by rw [show 2 ^ s * (x * 2 ^ (32 - s)) = x * (2 ^ s * 2 ^ (32 - s)) by rw [Nat.mul_left_comm], ← e1]; omega]
    rw [Nat.add_mul_div_left _ _ (Nat.two_pow_pos s)]
  have hq : x / 2 ^ s < 2 ^ (32 - s) := Nat.div_lt_of_lt_mul (by rw [← e1]; exact hx)
  have e3 : x * 2 ^ (32 - s) % 4294967296 = 2 ^ (32 - s) * (x % 2 ^ s) := by
    rw [show (4294967296 : Nat) = 2 ^ (32 - s) * 2 ^ s by rw [e1, Nat.mul_comm], Nat.mul_comm x, Nat.mul_mod_mul_left]
  rw [e2, e3, Nat.or_comm, ← Nat.two_pow_add_eq_or_of_lt hq, ← e3]
  have hb : x * 2 ^ (32 - s) % 4294967296 + x / 2 ^ s < 4294967296 := by
    rw [e3]
    have : 2 ^ (32 - s) * (x % 2 ^ s + 1) ≤ 2 ^ (32 - s) * 2 ^ s := Nat.mul_le_mul_left _ (Nat.mod_lt _ (Nat.two_pow_pos s))
    have e4 : 2 ^ (32 - s) * 2 ^ s = 4294967296 := by rw [e1, Nat.mul_comm]
    rw [e4, Nat.mul_add] at this
    omega
  generalize x * 2 ^ (32 - s) = y at hb ⊢
  generalize x / 2 ^ s = z at hb ⊢
  omega
/-- three turns of the lanes, told apart -/
theorem pack_rot3 {f : Nat → Nat} (hf : Lt f 4294967296) (n a b c : Nat) (ha : 1 ≤ a ∧ a ≤ 31) (hb : 1 ≤ b ∧ b ≤ 31) (hc : 1 ≤ c ∧ c ≤ 31) :
    (((pack f n * 4294967297) >>> a) ^^^ ((pack f n * 4294967297) >>> b) ^^^ ((pack f n * 4294967297) >>> c)) &&& maskN n = pack (fun i => rotr (f i) a ^^^ rotr (f i) b ^^^ rotr (f i) c) n := by
  have h2 : Lt (fun i => f i * 4294967297) (2 ^ 64) := fun i => by have := hf i; dsimp only; omega
  have r : ∀ s, 1 ≤ s ∧ s ≤ 31 → ((pack f n * 4294967297) >>> s) &&& maskN n = pack (fun i => rotr (f i) s) n := fun s hs => by
    rw [pack_mul, pack_shift h2 n s (by omega)]
    exact pack_congr fun i _ => dup_rot (hf i) hs.1 hs.2
  have l : ∀ s, Lt (fun i => rotr (f i) s) (2 ^ 64) := fun s i => Nat.lt_trans (rotr_lt (hf i)) (by omega)
  rw [Nat.and_xor_distrib_right, Nat.and_xor_distrib_right, r a ha, r b hb, r c hc, pack_xor (l a) (l b), pack_xor (fun i => Nat.xor_lt_two_pow (l a i) (l b i)) (l c)]
/-- two turns and a shift -/
theorem pack_rot2 {f : Nat → Nat} (hf : Lt f 4294967296) (n a b c : Nat) (ha : 1 ≤ a ∧ a ≤ 31) (hb : 1 ≤ b ∧ b ≤ 31) (hc : c ≤ 31) :
    (((pack f n * 4294967297) >>> a) ^^^ ((pack f n * 4294967297) >>> b) ^^^ (pack f n >>> c)) &&& maskN n = pack (fun i => rotr (f i) a ^^^ rotr (f i) b ^^^ (f i / 2 ^ c)) n := by
  have h2 : Lt (fun i => f i * 4294967297) (2 ^ 64) := fun i => by have := hf i; dsimp only; omega
  have h1 : Lt f (2 ^ 64) := hf.mono (by omega)
  have r : ∀ s, 1 ≤ s ∧ s ≤ 31 → ((pack f n * 4294967297) >>> s) &&& maskN n = pack (fun i => rotr (f i) s) n := fun s hs => by
    rw [pack_mul, pack_shift h2 n s (by omega)]
    exact pack_congr fun i _ => dup_rot (hf i) hs.1 hs.2
  have r0 : (pack f n >>> c) &&& maskN n = pack (fun i => f i / 2 ^ c) n := by
    rw [pack_shift h1 n c (by omega)]
    exact pack_congr fun i _ => Nat.mod_eq_of_lt (Nat.lt_of_le_of_lt (Nat.div_le_self _ _) (hf i))
  have l : ∀ s, Lt (fun i => rotr (f i) s) (2 ^ 64) := fun s i => Nat.lt_trans (rotr_lt (hf i)) (by omega)
  rw [Nat.and_xor_distrib_right, Nat.and_xor_distrib_right, r a ha, r b hb, r0, pack_xor (l a) (l b), pack_xor (fun i => Nat.xor_lt_two_pow (l a i) (l b i)) (fun i => Nat.lt_of_le_of_lt (Nat.div_le_self _ _) (h1 i))]

/- the steps over lanes, in the words that the kernel reckons with -/
def pB1 (M e : Nat) : Nat := Nat.land (Nat.xor (Nat.xor (Nat.shiftRight (Nat.mul e 4294967297) 6) (Nat.shiftRight (Nat.mul e 4294967297) 11)) (Nat.shiftRight (Nat.mul e 4294967297) 25)) M
def pB0 (M a : Nat) : Nat := Nat.land (Nat.xor (Nat.xor (Nat.shiftRight (Nat.mul a 4294967297) 2) (Nat.shiftRight (Nat.mul a 4294967297) 13)) (Nat.shiftRight (Nat.mul a 4294967297) 22)) M
def pS0 (M a : Nat) : Nat := Nat.land (Nat.xor (Nat.xor (Nat.shiftRight (Nat.mul a 4294967297) 7) (Nat.shiftRight (Nat.mul a 4294967297) 18)) (Nat.shiftRight a 3)) M
def pS1 (M a : Nat) : Nat := Nat.land (Nat.xor (Nat.xor (Nat.shiftRight (Nat.mul a 4294967297) 17) (Nat.shiftRight (Nat.mul a 4294967297) 19)) (Nat.shiftRight a 10)) M
def pCh (e f g : Nat) : Nat := Nat.xor g (Nat.land e (Nat.xor f g))
def pMaj (a b c : Nat) : Nat := Nat.xor b (Nat.land (Nat.xor a b) (Nat.xor b c))
theorem pB1_eq {f : Nat → Nat} (hf : Lt f 4294967296) (n : Nat) : pB1 (maskN n) (pack f n) = pack (fun i => big1 (f i)) n := pack_rot3 hf n 6 11 25 (by omega) (by omega) (by omega)
theorem pB0_eq {f : Nat → Nat} (hf : Lt f 4294967296) (n : Nat) : pB0 (maskN n) (pack f n) = pack (fun i => big0 (f i)) n := pack_rot3 hf n 2 13 22 (by omega) (by omega) (by omega)
theorem pS0_eq {f : Nat → Nat} (hf : Lt f 4294967296) (n : Nat) : pS0 (maskN n) (pack f n) = pack (fun i => sg0 (f i)) n := pack_rot2 hf n 7 18 3 (by omega) (by omega) (by omega)
theorem pS1_eq {f : Nat → Nat} (hf : Lt f 4294967296) (n : Nat) : pS1 (maskN n) (pack f n) = pack (fun i => sg1 (f i)) n := pack_rot2 hf n 17 19 10 (by omega) (by omega) (by omega)
theorem ch_same {e f g : Nat} (he : e < 4294967296) : g ^^^ (e &&& (f ^^^ g)) = chF e f g ∨ ¬ g < 4294967296 := by
  by_cases hg : g < 4294967296
  · left
    unfold chF
    refine Nat.eq_of_testBit_eq fun j => ?_
    simp only [Nat.testBit_xor, Nat.testBit_and]
    rw [show (4294967295 : Nat) = 2 ^ 32 - 1 from rfl, Nat.testBit_two_pow_sub_one]
    by_cases hj : j < 32
    · rw [decide_eq_true hj]; cases e.testBit j <;> cases f.testBit j <;> cases g.testBit j <;> rfl
    · have : g.testBit j = false := Nat.testBit_lt_two_pow (Nat.lt_of_lt_of_le hg (show 2 ^ 32 ≤ 2 ^ j from Nat.pow_le_pow_right (by omega) (by omega)))
      have h2 : e.testBit j = false := Nat.testBit_lt_two_pow (Nat.lt_of_lt_of_le he (show 2 ^ 32 ≤ 2 ^ j from Nat.pow_le_pow_right (by omega) (by omega)))
      rw [this, h2]; simp
  · exact .inr hg
theorem maj_same (a b c : Nat) : b ^^^ ((a ^^^ b) &&& (b ^^^ c)) = majF a b c := by
  unfold majF
  refine Nat.eq_of_testBit_eq fun j => ?_
  simp only [Nat.testBit_xor, Nat.testBit_and]
  cases a.testBit j <;> cases b.testBit j <;> cases c.testBit j <;> rfl
theorem pCh_eq {e f g : Nat → Nat} (he : Lt e 4294967296) (hf : Lt f 4294967296) (hg : Lt g 4294967296) (n : Nat) : pCh (pack e n) (pack f n) (pack g n) = pack (fun i => chF (e i) (f i) (g i)) n := by
  show pack g n ^^^ (pack e n &&& (pack f n ^^^ pack g n)) = _
  have we : Lt e (2 ^ 64) := he.mono (by omega)
  have wf : Lt f (2 ^ 64) := hf.mono (by omega)
  have wg : Lt g (2 ^ 64) := hg.mono (by omega)
  have w1 : Lt (fun i => f i ^^^ g i) (2 ^ 64) := fun i => Nat.xor_lt_two_pow (wf i) (wg i)
  have w2 : Lt (fun i => e i &&& (f i ^^^ g i)) (2 ^ 64) := fun i => Nat.and_lt_two_pow _ (w1 i)
  rw [pack_xor wf wg, pack_and we w1, pack_xor wg w2]
  exact pack_congr fun i _ => (ch_same (he i)).resolve_right (fun h => h (hg i))
theorem pMaj_eq {a b c : Nat → Nat} (ha : Lt a 4294967296) (hb : Lt b 4294967296) (hc : Lt c 4294967296) (n : Nat) : pMaj (pack a n) (pack b n) (pack c n) = pack (fun i => majF (a i) (b i) (c i)) n := by
  show pack b n ^^^ ((pack a n ^^^ pack b n) &&& (pack b n ^^^ pack c n)) = _
  have wa : Lt a (2 ^ 64) := ha.mono (by omega)
  have wb : Lt b (2 ^ 64) := hb.mono (by omega)
  have wc : Lt c (2 ^ 64) := hc.mono (by omega)
  have w1 : Lt (fun i => a i ^^^ b i) (2 ^ 64) := fun i => Nat.xor_lt_two_pow (wa i) (wb i)
  have w2 : Lt (fun i => b i ^^^ c i) (2 ^ 64) := fun i => Nat.xor_lt_two_pow (wb i) (wc i)
  have w3 : Lt (fun i => (a i ^^^ b i) &&& (b i ^^^ c i)) (2 ^ 64) := fun i => Nat.and_lt_two_pow _ (w2 i)
  rw [pack_xor wa wb, pack_xor wb wc, pack_and w1 w2, pack_xor wb w3]
  exact pack_congr fun i _ => maj_same _ _ _
end Go.Proofs.YtmhekefjlepfpaaDoor

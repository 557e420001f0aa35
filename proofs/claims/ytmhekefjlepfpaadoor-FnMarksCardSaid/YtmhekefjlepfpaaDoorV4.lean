/- HMAC over lanes: the blocks of a text, the outer block, the state of many keys at once. -/
import Derived.Test.YtmhekefjlepfpaaDoorV3
namespace Go.Proofs.YtmhekefjlepfpaaDoor
set_option linter.unusedVariables false
set_option linter.unusedSimpArgs false

/-- the state behind k blocks, from a state on -/
def stG (s : St) (l : List UInt8) : Nat → St
  | 0 => s
  | k + 1 => compS (stG s l k) ((l.drop (64 * k)).take 64)
theorem stG_ok {s : St} (h : s.ok) (l : List UInt8) : ∀ k, (stG s l k).ok
  | 0 => h
  | k + 1 => compS_ok _ _
theorem stF_G (l : List UInt8) : ∀ k, stF l k = stG start0 l k
  | 0 => rfl
  | k + 1 => by show compS (stF l k) _ = compS (stG start0 l k) _; rw [stF_G l k]
theorem stG_app (s : St) (B tl : List UInt8) (hB : B.length = 64) : ∀ k, stG s (B ++ tl) (k + 1) = stG (compS s B) tl k
  | 0 => by
    show compS s (((B ++ tl).drop (64 * 0)).take 64) = compS s B
    rw [Nat.mul_zero, List.drop_zero, List.take_left' hB]
  | k + 1 => by
    show compS (stG s (B ++ tl) (k + 1)) (((B ++ tl).drop (64 * (k + 1))).take 64) = compS (stG (compS s B) tl k) ((tl.drop (64 * k)).take 64)
    rw [stG_app s B tl hB k, show 64 * (k + 1) = B.length + 64 * k by omega, List.drop_append, List.drop_eq_nil_of_le (by omega), List.nil_append, Nat.add_sub_cancel_left]
/-- what stands behind a first block -/
def tailL (t : List UInt8) : List UInt8 := t ++ 128 :: (List.replicate (padN (64 + t.length)) 0 ++ be (8 * (64 + t.length)) 8)
theorem padL_app (B t : List UInt8) (hB : B.length = 64) : padL (B ++ t) = B ++ tailL t := by
  unfold padL tailL
  rw [List.length_append, hB, List.append_assoc]
theorem digL_app (B t : List UInt8) (hB : B.length = 64) : digL (B ++ t) = stB (stG (compS start0 B) (tailL t) ((tailL t).length / 64)) := by
  unfold digL
  rw [padL_app B t hB, stF_G, List.length_append, hB, show (64 + (tailL t).length) / 64 = (tailL t).length / 64 + 1 by omega, stG_app _ _ _ hB]
theorem tailL_len32 {t : List UInt8} (h : t.length = 32) : (tailL t).length = 64 := by
  unfold tailL
  simp only [List.length_append, List.length_cons, List.length_replicate, be_len, h]
  rfl
/-- the state of a code: its inner text, its outer one -/
def macS (hk t : List UInt8) : St := compS (compS start0 (xorL hk 92)) (tailL (stB (stG (compS start0 (xorL hk 54)) (tailL t) ((tailL t).length / 64))))
theorem hmacL_S (k t : List UInt8) : hmacL k t = stB (macS (hkeyL k) t) := by
  unfold hmacL macS
  rw [digL_app _ _ (by rw [xorL_len, hkeyL_len]), digL_app _ _ (by rw [xorL_len, hkeyL_len]), tailL_len32 (stB_len _)]
  show stB (compS (compS start0 _) (((tailL _).drop (64 * 0)).take 64)) = _
  rw [Nat.mul_zero, List.drop_zero, List.take_of_length_le (by rw [tailL_len32 (stB_len _)]; omega)]

/- bytes of words, as numbers -/
def b4 (x : Nat) : List Nat := [x / 16777216 % 256, x / 65536 % 256, x / 256 % 256, x % 256]
theorem ofNat_mod (x : Nat) : UInt8.ofNat (x % 256) = UInt8.ofNat x := by
  apply UInt8.toNat_inj.1
  rw [UInt8.toNat_ofNat', UInt8.toNat_ofNat', Nat.mod_mod]
theorem be_4 (x : Nat) : be x 4 = byts (b4 x) := by
  unfold b4 byts
  simp only [List.map_cons, List.map_nil, ofNat_mod]
  show ((([] ++ [UInt8.ofNat (x / 256 / 256 / 256)]) ++ [UInt8.ofNat (x / 256 / 256)]) ++ [UInt8.ofNat (x / 256)]) ++ [UInt8.ofNat x] = _
  simp only [List.nil_append, List.cons_append, Nat.div_div_eq_div_mul]
theorem b4_word {x : Nat} (h : x < 4294967296) : ((x / 16777216 % 256 * 256 + x / 65536 % 256) * 256 + x / 256 % 256) * 256 + x % 256 = x := by omega
/-- a state's bytes -/
def b32 (s : St) : List Nat := b4 s.a ++ (b4 s.b ++ (b4 s.c ++ (b4 s.d ++ (b4 s.e ++ (b4 s.f ++ (b4 s.g ++ b4 s.h))))))
theorem stB_b32 (s : St) : stB s = byts (b32 s) := by
  unfold stB b32
  simp only [be_4, byts_app]
theorem b4_lt (x : Nat) : ∀ y ∈ b4 x, y < 256 := by
  intro y hy
  simp only [b4, List.mem_cons, List.not_mem_nil, or_false] at hy
  rcases hy with rfl | rfl | rfl | rfl <;> exact Nat.mod_lt _ (by omega)
theorem b32_lt (s : St) : ∀ y ∈ b32 s, y < 256 := by
  intro y hy
  simp only [b32, List.mem_append] at hy
  rcases hy with h | h | h | h | h | h | h | h <;> exact b4_lt _ y h
theorem b32_len (s : St) : (b32 s).length = 32 := rfl
/-- the words of a state -/
def w8 (s : St) (r : List Nat) : List Nat := s.a :: s.b :: s.c :: s.d :: s.e :: s.f :: s.g :: s.h :: r
theorem words_b32 {s : St} (h : s.ok) (r : List Nat) : wordsN (b32 s ++ r) = w8 s (wordsN r) := by
  show ((((s.a / 16777216 % 256 * 256 + s.a / 65536 % 256) * 256 + s.a / 256 % 256) * 256 + s.a % 256)) :: ((((s.b / 16777216 % 256 * 256 + s.b / 65536 % 256) * 256 + s.b / 256 % 256) * 256 + s.b % 256)) ::
    ((((s.c / 16777216 % 256 * 256 + s.c / 65536 % 256) * 256 + s.c / 256 % 256) * 256 + s.c % 256)) :: ((((s.d / 16777216 % 256 * 256 + s.d / 65536 % 256) * 256 + s.d / 256 % 256) * 256 + s.d % 256)) ::
    ((((s.e / 16777216 % 256 * 256 + s.e / 65536 % 256) * 256 + s.e / 256 % 256) * 256 + s.e % 256)) :: ((((s.f / 16777216 % 256 * 256 + s.f / 65536 % 256) * 256 + s.f / 256 % 256) * 256 + s.f % 256)) ::
    ((((s.g / 16777216 % 256 * 256 + s.g / 65536 % 256) * 256 + s.g / 256 % 256) * 256 + s.g % 256)) :: ((((s.h / 16777216 % 256 * 256 + s.h / 65536 % 256) * 256 + s.h / 256 % 256) * 256 + s.h % 256)) :: wordsN r = _
  rw [b4_word h.1, b4_word h.2.1, b4_word h.2.2.1, b4_word h.2.2.2.1, b4_word h.2.2.2.2.1, b4_word h.2.2.2.2.2.1, b4_word h.2.2.2.2.2.2.1, b4_word h.2.2.2.2.2.2.2]
  rfl
/-- what stands behind the inner digest -/
def out32 : List Nat := 128 :: (List.replicate 23 0 ++ [0, 0, 0, 0, 0, 0, 3, 0])
theorem out32_lt : ∀ x ∈ out32, x < 256 := by decide
theorem tail_out (s : St) : tailL (stB s) = byts (b32 s ++ out32) := by
  unfold tailL
  rw [stB_len, stB_b32, byts_app]
  rfl
theorem out_words {s : St} (h : s.ok) {j : Nat} (hj : j < 16) : wordAt (tailL (stB s)) j = nthN (w8 s [2147483648, 0, 0, 0, 0, 0, 0, 768]) j := by
  rw [tail_out, ← words_at j (b32 s ++ out32) (fun x hx => ?_) (by rw [List.length_append, b32_len]; show _ < 32 + 32; omega), words_b32 h]
  · rfl
  · rcases List.mem_append.1 hx with hx | hx
    · exact b32_lt s x hx
    · exact out32_lt x hx
theorem key_words {s : St} (h : s.ok) {j : Nat} (hj : j < 16) : wordAt (stB s ++ List.replicate 32 0) j = nthN (w8 s [0, 0, 0, 0, 0, 0, 0, 0]) j := by
  have e : stB s ++ List.replicate 32 0 = byts (b32 s ++ List.replicate 32 0) := by rw [stB_b32, byts_app]; rfl
  rw [e, ← words_at j (b32 s ++ List.replicate 32 0) (fun x hx => ?_) (by rw [List.length_append, b32_len, List.length_replicate]; omega), words_b32 h]
  · rfl
  · rcases List.mem_append.1 hx with hx | hx
    · exact b32_lt s x hx
    · rw [(List.mem_replicate.1 hx).2]; omega

/- lanes -/
theorem lift_id (n : Nat) : ∀ f, Lt f 4294967296 → (fun x : Nat => x) (pack f n) = pack (fun i => f ((fun i => i) i)) n := fun f _ => rfl
theorem pack_one (f : Nat → Nat) : pack f 1 = f 0 := by simp [pack]
theorem mask_one : maskN 1 = 4294967295 := by unfold maskN; rw [pack_one]
theorem lift_ones (n : Nat) : ∀ f, Lt f 4294967296 → Nat.mul (onesN n) (pack f 1) = pack (fun i => f ((fun _ => 0) i)) n := fun f _ => by
  rw [pack_one]
  exact ones_mul n (f 0)
/-- the blocks of a text, the same in all lanes -/
noncomputable def pTail (M ones : Nat) (s : P8) (tl : List Nat) (k : Nat) : P8 :=
  Nat.rec (motive := fun _ => P8) s (fun k ih => pComp M ones 4294967295 (Nat.mul ones) roundK ih (fun j => nthN (wordsN (List.take 64 (List.drop (Nat.mul 64 k) tl))) j)) k
theorem byts_block (tl : List Nat) (a b : Nat) : ((byts tl).drop a).take b = byts ((tl.drop a).take b) := by
  unfold byts
  rw [List.map_take, List.map_drop]
theorem pTail_eq {n : Nat} {S : Nat → St} (hS : ∀ i, (S i).ok) {tl : List Nat} (hx : ∀ x ∈ tl, x < 256) : ∀ k, 64 * k ≤ tl.length → pTail (maskN n) (onesN n) (P8s n S) tl k = P8s n (fun i => stG (S i) (byts tl) k)
  | 0, _ => rfl
  | k + 1, hk => by
    show pComp (maskN n) (onesN n) 4294967295 (Nat.mul (onesN n)) roundK (pTail (maskN n) (onesN n) (P8s n S) tl k) _ = _
    rw [pTail_eq hS hx k (by omega), ← mask_one]
    refine pComp_comp (m := 1) (lift_ones n) (B := fun _ => byts ((tl.drop (64 * k)).take 64)) (fun i => stG_ok (hS i) _ _) (fun j hj => ?_) |>.trans ?_
    · rw [pack_one]
      exact words_at j _ (fun x h => hx x (List.mem_of_mem_drop (List.mem_of_mem_take h))) (by rw [List.length_take, List.length_drop]; show 4 * j + 3 < min 64 (tl.length - 64 * k); omega)
    · unfold P8s
      simp only [← byts_block]
      rfl
/-- the outer block -/
noncomputable def pOuter (M ones : Nat) (so s : P8) : P8 :=
  P8.rec (motive := fun _ => P8) (fun a b c d e f g h => pComp M ones M (fun x => x) roundK so (fun j => nthN [a, b, c, d, e, f, g, h, Nat.mul ones 2147483648, 0, 0, 0, 0, 0, 0, Nat.mul ones 768] j)) s
theorem pack_zero (n : Nat) : pack (fun _ => 0) n = 0 := by
  have := ones_mul n 0
  rw [Nat.mul_zero] at this
  exact this.symm
theorem pOuter_eq {n : Nat} {O I : Nat → St} (hO : ∀ i, (O i).ok) (hI : ∀ i, (I i).ok) : pOuter (maskN n) (onesN n) (P8s n O) (P8s n I) = P8s n (fun i => compS (O i) (tailL (stB (I i)))) := by
  show pComp (maskN n) (onesN n) (maskN n) (fun x => x) roundK (P8s n O) (fun j => nthN [pack (fun i => (I i).a) n, pack (fun i => (I i).b) n, pack (fun i => (I i).c) n, pack (fun i => (I i).d) n, pack (fun i => (I i).e) n, pack (fun i => (I i).f) n, pack (fun i => (I i).g) n, pack (fun i => (I i).h) n, Nat.mul (onesN n) 2147483648, 0, 0, 0, 0, 0, 0, Nat.mul (onesN n) 768] j) = _
  refine pComp_comp (m := n) (lift_id n) (B := fun i => tailL (stB (I i))) hO (fun j hj => ?_)
  have e : ∀ q : Nat → Nat, (∀ i, q i = nthN (w8 (I i) [2147483648, 0, 0, 0, 0, 0, 0, 768]) j) → pack (fun i => wordAt (tailL (stB (I i))) j) n = pack q n := fun q hq => pack_congr fun i _ => (out_words (hI i) hj).trans (hq i).symm
  match j, hj, e with
  | 0, _, e => exact (e (fun i => (I i).a) (fun i => rfl)).symm
  | 1, _, e => exact (e (fun i => (I i).b) (fun i => rfl)).symm
  | 2, _, e => exact (e (fun i => (I i).c) (fun i => rfl)).symm
  | 3, _, e => exact (e (fun i => (I i).d) (fun i => rfl)).symm
  | 4, _, e => exact (e (fun i => (I i).e) (fun i => rfl)).symm
  | 5, _, e => exact (e (fun i => (I i).f) (fun i => rfl)).symm
  | 6, _, e => exact (e (fun i => (I i).g) (fun i => rfl)).symm
  | 7, _, e => exact (e (fun i => (I i).h) (fun i => rfl)).symm
  | 8, _, e => exact (ones_mul n 2147483648).trans (e (fun i => 2147483648) (fun i => rfl)).symm
  | 9, _, e => exact (pack_zero n).symm.trans (e (fun i => 0) (fun i => rfl)).symm
  | 10, _, e => exact (pack_zero n).symm.trans (e (fun i => 0) (fun i => rfl)).symm
  | 11, _, e => exact (pack_zero n).symm.trans (e (fun i => 0) (fun i => rfl)).symm
  | 12, _, e => exact (pack_zero n).symm.trans (e (fun i => 0) (fun i => rfl)).symm
  | 13, _, e => exact (pack_zero n).symm.trans (e (fun i => 0) (fun i => rfl)).symm
  | 14, _, e => exact (pack_zero n).symm.trans (e (fun i => 0) (fun i => rfl)).symm
  | 15, _, e => exact (ones_mul n 768).trans (e (fun i => 768) (fun i => rfl)).symm
  | j + 16, h, _ => exact absurd h (by omega)
/-- the first state, in all lanes -/
noncomputable def pStart (ones : Nat) : P8 := P8.mk (Nat.mul ones 0x6a09e667) (Nat.mul ones 0xbb67ae85) (Nat.mul ones 0x3c6ef372) (Nat.mul ones 0xa54ff53a) (Nat.mul ones 0x510e527f) (Nat.mul ones 0x9b05688c) (Nat.mul ones 0x1f83d9ab) (Nat.mul ones 0x5be0cd19)
theorem pStart_eq (n : Nat) : pStart (onesN n) = P8s n (fun _ => start0) := by
  have h : ∀ c, Nat.mul (onesN n) c = pack (fun _ => c) n := fun c => ones_mul n c
  unfold pStart P8s
  simp only [h]
  rfl
/-- the state behind the block of the keys, turned -/
noncomputable def pKey (M ones c : Nat) (w : Nat → Nat) : P8 := pComp M ones M (fun x => x) roundK (pStart ones) (fun j => Nat.xor (w j) (Nat.mul ones c))
theorem pKey_eq {n : Nat} (e : UInt8) {B : Nat → List UInt8} (hB : ∀ i, (B i).length = 64) {w : Nat → Nat} (hw : ∀ j, j < 16 → w j = pack (fun i => wordAt (B i) j) n) :
    pKey (maskN n) (onesN n) (e.toNat * 16843009) w = P8s n (fun i => compS start0 (xorL (B i) e)) := by
  unfold pKey
  rw [pStart_eq]
  refine pComp_comp (m := n) (lift_id n) (B := fun i => xorL (B i) e) (fun _ => start0_ok) (fun j hj => ?_)
  show w j ^^^ (onesN n * (e.toNat * 16843009)) = _
  have he : e.toNat * 16843009 < 4294967296 := by have := e.toNat_lt; omega
  rw [hw j hj, ones_mul, pack_xor (fun i => Nat.lt_trans (wordAt_lt _ _) (by omega)) (fun i => Nat.lt_trans he (by omega))]
  exact pack_congr fun i _ => (xorL_word (B i) e (by rw [hB i]; omega)).symm
/-- the code of a text under all keys -/
noncomputable def pMac (M ones : Nat) (si so : P8) (tl : List Nat) : P8 := pOuter M ones so (pTail M ones si tl (Nat.div tl.length 64))
theorem pMac_eq {n : Nat} {B : Nat → List UInt8} {tl : List Nat} (hx : ∀ x ∈ tl, x < 256) {t : List UInt8} (ht : byts tl = tailL t) :
    pMac (maskN n) (onesN n) (P8s n (fun i => compS start0 (xorL (B i) 54))) (P8s n (fun i => compS start0 (xorL (B i) 92))) tl = P8s n (fun i => macS (B i) t) := by
  unfold pMac
  rw [pTail_eq (fun i => compS_ok _ _) hx _ (by show 64 * (tl.length / 64) ≤ _; omega), pOuter_eq (fun i => compS_ok _ _) (fun i => stG_ok (compS_ok _ _) _ _)]
  unfold macS
  rw [← ht, byts_len]
  rfl
/-- the last word -/
noncomputable def lastW (s : P8) : Nat := P8.rec (motive := fun _ => Nat) (fun _ _ _ _ _ _ _ h => h) s
/-- two rows of lanes differ in each lane -/
noncomputable def apart (M ones x y : Nat) : Bool := Nat.beq (Nat.land (Nat.add (Nat.xor x y) M) (Nat.mul ones 4294967296)) (Nat.mul ones 4294967296)
theorem apart_ne {n : Nat} {f g : Nat → Nat} (hf : Lt f 4294967296) (hg : Lt g 4294967296) (h : apart (maskN n) (onesN n) (pack f n) (pack g n) = true) (i : Nat) (hi : i < n) : f i ≠ g i := by
  have h2 : ((pack f n ^^^ pack g n) + maskN n) &&& (onesN n * 4294967296) = onesN n * 4294967296 := Nat.eq_of_beq_eq_true h
  rw [ones_mul, pack_xor (hf.mono (by omega)) (hg.mono (by omega)), maskN, pack_add] at h2
  have hx : ∀ i, f i ^^^ g i < 4294967296 := fun i => Nat.xor_lt_two_pow (n := 32) (hf i) (hg i)
  rw [pack_and (fun i => show (f i ^^^ g i) + 4294967295 < 2 ^ 64 by have := hx i; omega) (fun i => by show (4294967296 : Nat) < _; omega)] at h2
  have h3 := pack_inj (fun i => Nat.and_lt_two_pow _ (by show (4294967296 : Nat) < 2 ^ 64; omega)) (fun i => by show (4294967296 : Nat) < _; omega) h2 i hi
  intro e
  rw [e, Nat.xor_self] at h3
  exact absurd h3 (by decide)
theorem stB_h {s t : St} (hs : s.ok) (ht : t.ok) (h : stB s = stB t) : s.h = t.h := by
  rw [stB_b32, stB_b32] at h
  have h7 : wordAt (byts (b32 s)) 7 = wordAt (byts (b32 t)) 7 := by rw [h]
  rw [← words_at 7 (b32 s) (b32_lt s) (by rw [b32_len]; omega), ← words_at 7 (b32 t) (b32_lt t) (by rw [b32_len]; omega)] at h7
  have e : ∀ u : St, u.ok → nthN (wordsN (b32 u)) 7 = u.h := fun u hu => by
    have := words_b32 hu []
    rw [List.append_nil] at this
    rw [this]
    rfl
  rw [e s hs, e t ht] at h7
  exact h7
theorem macS_ok (hk t : List UInt8) : (macS hk t).ok := compS_ok _ _
end Go.Proofs.YtmhekefjlepfpaaDoor

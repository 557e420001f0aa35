/- SHA-256 in plain Lean: words are natural numbers below 2^32. -/
namespace Go.Proofs.YtmhekefjlepfpaaDoor

def rotr (x n : Nat) : Nat := (x / 2 ^ n) ||| (x * 2 ^ (32 - n) % 4294967296)
def sg0 (a : Nat) : Nat := rotr a 7 ^^^ rotr a 18 ^^^ (a / 8)
def sg1 (b : Nat) : Nat := rotr b 17 ^^^ rotr b 19 ^^^ (b / 1024)
/-- the word of a block -/
def wordAt (l : List UInt8) (i : Nat) : Nat :=
  ((((l.getD (4 * i) 0).toNat * 16777216 ||| (l.getD (4 * i + 1) 0).toNat * 65536) ||| (l.getD (4 * i + 2) 0).toNat * 256) ||| (l.getD (4 * i + 3) 0).toNat)
def wnext (W : List Nat) (i : Nat) : Nat := (((W.getD (i - 16) 0 + W.getD (i - 7) 0) % 4294967296 + sg0 (W.getD (i - 15) 0)) % 4294967296 + sg1 (W.getD (i - 2) 0)) % 4294967296
/-- the first k words of the schedule -/
def wsch (l : List UInt8) : Nat → List Nat
  | 0 => []
  | k + 1 => wsch l k ++ [if k < 16 then wordAt l k else wnext (wsch l k) k]
structure St where
  a : Nat
  b : Nat
  c : Nat
  d : Nat
  e : Nat
  f : Nat
  g : Nat
  h : Nat
def big1 (e : Nat) : Nat := rotr e 6 ^^^ rotr e 11 ^^^ rotr e 25
def big0 (a : Nat) : Nat := rotr a 2 ^^^ rotr a 13 ^^^ rotr a 22
def chF (e f g : Nat) : Nat := (e &&& f) ^^^ ((4294967295 ^^^ e) &&& g)
def majF (a b c : Nat) : Nat := (a &&& b) ^^^ (a &&& c) ^^^ (b &&& c)
def xOf (kk ww : Nat) (s : St) : Nat := ((((s.h + big1 s.e) % 4294967296 + chF s.e s.f s.g) % 4294967296 + kk) % 4294967296 + ww) % 4294967296
def yOf (s : St) : Nat := (big0 s.a + majF s.a s.b s.c) % 4294967296
def sround (kk ww : Nat) (s : St) : St := ⟨(xOf kk ww s + yOf s) % 4294967296, s.a, s.b, s.c, (s.d + xOf kk ww s) % 4294967296, s.e, s.f, s.g⟩
def roundK : List Nat := [0x428a2f98, 0x71374491, 0xb5c0fbcf, 0xe9b5dba5, 0x3956c25b, 0x59f111f1, 0x923f82a4, 0xab1c5ed5,
  0xd807aa98, 0x12835b01, 0x243185be, 0x550c7dc3, 0x72be5d74, 0x80deb1fe, 0x9bdc06a7, 0xc19bf174,
  0xe49b69c1, 0xefbe4786, 0x0fc19dc6, 0x240ca1cc, 0x2de92c6f, 0x4a7484aa, 0x5cb0a9dc, 0x76f988da,
  0x983e5152, 0xa831c66d, 0xb00327c8, 0xbf597fc7, 0xc6e00bf3, 0xd5a79147, 0x06ca6351, 0x14292967,
  0x27b70a85, 0x2e1b2138, 0x4d2c6dfc, 0x53380d13, 0x650a7354, 0x766a0abb, 0x81c2c92e, 0x92722c85,
  0xa2bfe8a1, 0xa81a664b, 0xc24b8b70, 0xc76c51a3, 0xd192e819, 0xd6990624, 0xf40e3585, 0x106aa070,
  0x19a4c116, 0x1e376c08, 0x2748774c, 0x34b0bcb5, 0x391c0cb3, 0x4ed8aa4a, 0x5b9cca4f, 0x682e6ff3,
  0x748f82ee, 0x78a5636f, 0x84c87814, 0x8cc70208, 0x90befffa, 0xa4506ceb, 0xbef9a3f7, 0xc67178f2]
def srounds (W : List Nat) (s : St) : Nat → St
  | 0 => s
  | k + 1 => sround (roundK.getD k 0) (W.getD k 0) (srounds W s k)
def addSt (s t : St) : St := ⟨(s.a + t.a) % 4294967296, (s.b + t.b) % 4294967296, (s.c + t.c) % 4294967296, (s.d + t.d) % 4294967296, (s.e + t.e) % 4294967296, (s.f + t.f) % 4294967296, (s.g + t.g) % 4294967296, (s.h + t.h) % 4294967296⟩
def compS (s : St) (l : List UInt8) : St := addSt (srounds (wsch l 64) s 64) s
def start0 : St := ⟨0x6a09e667, 0xbb67ae85, 0x3c6ef372, 0xa54ff53a, 0x510e527f, 0x9b05688c, 0x1f83d9ab, 0x5be0cd19⟩

/-- all words are words -/
def St.ok (s : St) : Prop := s.a < 4294967296 ∧ s.b < 4294967296 ∧ s.c < 4294967296 ∧ s.d < 4294967296 ∧ s.e < 4294967296 ∧ s.f < 4294967296 ∧ s.g < 4294967296 ∧ s.h < 4294967296

theorem rotr_lt {x n : Nat} (h : x < 4294967296) : rotr x n < 4294967296 := by
  unfold rotr
  have h1 : x / 2 ^ n < 2 ^ 32 := Nat.lt_of_le_of_lt (Nat.div_le_self _ _) h
  have h2 : x * 2 ^ (32 - n) % 4294967296 < 2 ^ 32 := Nat.mod_lt _ (by omega)
  exact Nat.or_lt_two_pow h1 h2
theorem xor_lt {x y : Nat} (h : x < 4294967296) (k : y < 4294967296) : x ^^^ y < 4294967296 := Nat.xor_lt_two_pow (n := 32) h k
theorem and_lt {x y : Nat} (k : y < 4294967296) : x &&& y < 4294967296 := Nat.and_lt_two_pow (n := 32) _ k
theorem or_lt {x y : Nat} (h : x < 4294967296) (k : y < 4294967296) : x ||| y < 4294967296 := Nat.or_lt_two_pow (n := 32) h k
theorem sg0_lt {x : Nat} (h : x < 4294967296) : sg0 x < 4294967296 := xor_lt (xor_lt (rotr_lt h) (rotr_lt h)) (by omega)
theorem sg1_lt {x : Nat} (h : x < 4294967296) : sg1 x < 4294967296 := xor_lt (xor_lt (rotr_lt h) (rotr_lt h)) (by omega)
theorem big0_lt {x : Nat} (h : x < 4294967296) : big0 x < 4294967296 := xor_lt (xor_lt (rotr_lt h) (rotr_lt h)) (rotr_lt h)
theorem big1_lt {x : Nat} (h : x < 4294967296) : big1 x < 4294967296 := xor_lt (xor_lt (rotr_lt h) (rotr_lt h)) (rotr_lt h)
theorem chF_lt {e f g : Nat} (hf : f < 4294967296) (hg : g < 4294967296) : chF e f g < 4294967296 := xor_lt (and_lt hf) (and_lt hg)
theorem majF_lt {a b c : Nat} (hb : b < 4294967296) (hc : c < 4294967296) : majF a b c < 4294967296 := xor_lt (xor_lt (and_lt hb) (and_lt hc)) (and_lt hc)
theorem xOf_lt (kk ww : Nat) (s : St) : xOf kk ww s < 4294967296 := Nat.mod_lt _ (by omega)
theorem yOf_lt (s : St) : yOf s < 4294967296 := Nat.mod_lt _ (by omega)
theorem wordAt_lt (l : List UInt8) (i : Nat) : wordAt l i < 4294967296 := by
  unfold wordAt
  have h1 := (l.getD (4 * i) 0).toNat_lt
  have h2 := (l.getD (4 * i + 1) 0).toNat_lt
  have h3 := (l.getD (4 * i + 2) 0).toNat_lt
  have h4 := (l.getD (4 * i + 3) 0).toNat_lt
  exact or_lt (or_lt (or_lt (by omega) (by omega)) (by omega)) (by omega)
theorem wnext_lt (W : List Nat) (i : Nat) : wnext W i < 4294967296 := Nat.mod_lt _ (by omega)
theorem wsch_len (l : List UInt8) (k : Nat) : (wsch l k).length = k := by
  induction k with
  | zero => rfl
  | succ k ih => simp [wsch, ih]
theorem wsch_lt (l : List UInt8) (k : Nat) : ∀ x ∈ wsch l k, x < 4294967296 := by
  induction k with
  | zero => intro x h; cases h
  | succ k ih =>
    intro x h
    simp only [wsch, List.mem_append, List.mem_singleton] at h
    rcases h with h | h
    · exact ih x h
    · subst h
      split
      · exact wordAt_lt _ _
      · exact wnext_lt _ _
theorem wsch_getD_lt (l : List UInt8) (k j : Nat) : (wsch l k).getD j 0 < 4294967296 := by
  rw [List.getD_eq_getElem?_getD]
  by_cases h : j < (wsch l k).length
  · rw [List.getElem?_eq_getElem h]; exact wsch_lt l k _ (List.getElem_mem h)
  · rw [List.getElem?_eq_none (by omega)]; simp
theorem sround_ok {kk ww : Nat} {s : St} (h : s.ok) : (sround kk ww s).ok :=
  ⟨Nat.mod_lt _ (by omega), h.1, h.2.1, h.2.2.1, Nat.mod_lt _ (by omega), h.2.2.2.2.1, h.2.2.2.2.2.1, h.2.2.2.2.2.2.1⟩
theorem srounds_ok {W : List Nat} {s : St} (h : s.ok) (k : Nat) : (srounds W s k).ok := by
  induction k with
  | zero => exact h
  | succ k ih => exact sround_ok ih
theorem addSt_ok (s t : St) : (addSt s t).ok := ⟨Nat.mod_lt _ (by omega), Nat.mod_lt _ (by omega), Nat.mod_lt _ (by omega), Nat.mod_lt _ (by omega), Nat.mod_lt _ (by omega), Nat.mod_lt _ (by omega), Nat.mod_lt _ (by omega), Nat.mod_lt _ (by omega)⟩
theorem compS_ok (s : St) (l : List UInt8) : (compS s l).ok := addSt_ok _ _
theorem start0_ok : start0.ok := by unfold St.ok start0; decide
end Go.Proofs.YtmhekefjlepfpaaDoor

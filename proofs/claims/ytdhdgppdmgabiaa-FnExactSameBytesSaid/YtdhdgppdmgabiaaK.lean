/- Words for memory and for bytes, without the program: an own slice of bytes read as a string, big-endian bytes. -/
import Derived.WalkKit
import Derived.WalkSpells
import Derived.WalkLawsBesides
import Derived.Laws.OwnMore
import Derived.Laws.IdiomStrings
import Derived.Lib.BufferRead
import Derived.Lib.Hide
import Derived.Laws.BitsAllLaws
import Derived.Laws.BitsLemmas
namespace Go.Proofs.Ytdhdgppdmgabiaa
open Go.RowKit
set_option linter.unusedVariables false
set_option linter.unusedSimpArgs false

/-- a byte as a value -/
def vb (x : UInt8) : Value := .int .u8 (x.toNat : Int)
/-- a number as a value -/
def vn (x : Int) : Value := .int .i64 x
/-- a string as a value -/
def vs (x : ByteArray) : Value := .string x
/-- a list of bytes as a string -/
def str (l : List UInt8) : ByteArray := ⟨l.toArray⟩

theorem str_size (l : List UInt8) : (str l).size = l.length := by simp [str, ByteArray.size]
theorem str_toList (l : List UInt8) : (str l).data.toList = l := by simp [str]
theorem str_inj {a b : List UInt8} (h : str a = str b) : a = b := by
  have := congrArg (fun s => s.data.toList) h; simpa [str] using this
theorem str_of (s : ByteArray) : str s.data.toList = s := by cases s; simp [str]

theorem ret_eq {a b : Value} (h : a = b) : Ending.returned a = .returned b := by rw [h]
theorem vb_mod (a : Nat) : Value.int .u8 ((a : Int) % 256) = vb (UInt8.ofNat a) := by
  simp only [vb, UInt8.toNat_ofNat']; congr 1
theorem vb_zero : Value.int .u8 0 = vb 0 := rfl

theorem Below.bcell {W w1 : World} (hb : Below W.heap.size W w1) : (∀ b o, b < W.heap.size → w1.cell? ⟨b, o, none⟩ = W.cell? ⟨b, o, none⟩) ∧ (∀ b o, b < W.heap.size → w1.frozen? ⟨b, o, none⟩ = W.frozen? ⟨b, o, none⟩) :=
  ⟨fun b o h => hb.cell (p := ⟨b, o, none⟩) h, fun b o h => hb.frozen (p := ⟨b, o, none⟩) h⟩

theorem own_size {w : World} {B : Nat} {e : TypeId} {sz g n cap : Nat} {xs : List Value} (h : w.ownsRow B e sz (.slice (some ⟨g, 0, none⟩) n cap) n xs) : B ≤ g ∧ g < w.heap.size := by
  exact h.lt g rfl

/-- string(b) of an own slice of bytes -/
theorem own_string {P : Program} (w : World) (src dst e : TypeId) (hs : P.underlying src = some (.slice e)) (he : P.underlying e = some (.int .u8)) (hd : P.underlying dst = some .string)
    {B n : Nat} {v : Value} {l : List UInt8} (h : w.ownsRow B e 1 v n (l.map vb)) : Sem.run P (convert src dst v) w = .ok (.string (str l)) w := by
  have hlen := h.1
  rcases h.2 with ⟨rfl, rfl⟩ | ⟨g, cap, cur, rfl, hB, hg, hnc, hm, hcs, htk⟩
  · have : l = [] := List.eq_nil_of_length_eq_zero (by simpa using hlen)
    subst this
    exact Lib.run_convert_nil_bytes w src dst e 0 hs he hd
  · have hn : n = l.length := by simpa using hlen.symm
    subst hn
    exact run_convert_bytes_back w src dst e ⟨g, 0, none⟩ cap l hs he hd (fun j hj => h.cells (g := g) rfl j _ (by simp [vb, hj]))

theorem own_set {w : World} {B : Nat} {e : TypeId} {g n cap : Nat} {xs : List Value} (h : w.ownsRow B e 1 (.slice (some ⟨g, 0, none⟩) n cap) n xs) (j : Nat) (u : Value) (ys : List Value) (hy : xs.set j u = ys) :
    (w.setCell ⟨g, j, none⟩ u).ownsRow B e 1 (.slice (some ⟨g, 0, none⟩) n cap) n ys := hy ▸ (h.stored j u).1

/-- the k last bytes of a number, the most significant first -/
def be (n : Nat) : Nat → List UInt8
  | 0 => []
  | k + 1 => be (n / 256) k ++ [UInt8.ofNat n]
theorem be_len (n k : Nat) : (be n k).length = k := by
  induction k generalizing n with
  | zero => rfl
  | succ k ih => simp [be, ih]
theorem be_head (n k : Nat) : be n (k + 1) = UInt8.ofNat (n / 256 ^ k) :: be n k := by
  induction k generalizing n with
  | zero => simp [be]
  | succ k ih =>
    rw [be, ih, be]
    simp [Nat.div_div_eq_div_mul, Nat.pow_succ, Nat.mul_comm]
theorem be_append (n a b : Nat) : be n (a + b) = be (n / 256 ^ b) a ++ be n b := by
  induction b generalizing n with
  | zero => simp [be]
  | succ b ih =>
    rw [← Nat.add_assoc, be, ih, be, Nat.div_div_eq_div_mul, Nat.pow_succ, Nat.mul_comm 256]
    simp


theorem ret_int {k : IntKind} {a b : Int} (h : a = b) : Ending.returned (.int k a) = .returned (.int k b) := by rw [h]
theorem ret_bool {a b : Bool} (h : a = b) : Ending.returned (.bool a) = .returned (.bool b) := by rw [h]
theorem ret_str {a b : ByteArray} (h : a = b) : Ending.returned (.string a) = .returned (.string b) := by rw [h]
theorem ret_two {a b c d : Value} (h : a = c) (k : b = d) : Ending.returned (.tuple #[a, b]) = .returned (.tuple #[c, d]) := by rw [h, k]

theorem i64_or_nat (a b : Nat) (ha : a < 2 ^ 62) (hb : b < 2 ^ 62) : bits .or .i64 (a : Int) (b : Int) = ((a ||| b : Nat) : Int) := by
  have hx : a ||| b < 2 ^ 62 := Nat.or_lt_two_pow ha hb
  have e : ∀ n : Nat, n < 2 ^ 62 → (BitVec.ofInt 64 (n : Int)).toNat = n := fun n hn => by
    rw [BitVec.ofInt_natCast, BitVec.toNat_ofNat]; exact Nat.mod_eq_of_lt (by omega)
  show IntKind.i64.wrap ((BitVec.ofInt 64 (a : Int) ||| BitVec.ofInt 64 (b : Int)).toNat : Int) = _
  rw [BitVec.toNat_or, e a ha, e b hb, IntKind.wrap_i64]
  omega
theorem i64_and_nat (a b : Nat) (ha : a < 2 ^ 62) (hb : b < 2 ^ 62) : bits .and .i64 (a : Int) (b : Int) = ((a &&& b : Nat) : Int) := by
  have hx : a &&& b < 2 ^ 62 := Nat.and_lt_two_pow _ hb
  have e : ∀ n : Nat, n < 2 ^ 62 → (BitVec.ofInt 64 (n : Int)).toNat = n := fun n hn => by
    rw [BitVec.ofInt_natCast, BitVec.toNat_ofNat]; exact Nat.mod_eq_of_lt (by omega)
  show IntKind.i64.wrap ((BitVec.ofInt 64 (a : Int) &&& BitVec.ofInt 64 (b : Int)).toNat : Int) = _
  rw [BitVec.toNat_and, e a ha, e b hb, IntKind.wrap_i64]
  omega
theorem w64_nat (a : Nat) (h : a < 2 ^ 63) : wrap64 (a : Int) = a := IntWalk.wrap64_in _ ⟨by omega, by omega⟩

/-- an or of xors is 0 where the bytes are the same -/
theorem or_xor_zero (m x y : Nat) : (m ||| (x ^^^ y)) = 0 ↔ (m = 0 ∧ x = y) := by
  rw [Nat.or_eq_zero_iff]
  have h : x ^^^ y = 0 ↔ x = y := by
    constructor
    · intro h
      have h2 : (x ^^^ y) ^^^ y = y := by rw [h, Nat.zero_xor]
      rwa [Nat.xor_assoc, Nat.xor_self, Nat.xor_zero] at h2
    · rintro rfl; exact Nat.xor_self _
  rw [h]
theorem or_xor_le {m x y : Nat} (h : m ≤ 255) (hx : x < 256) (hy : y < 256) : (m ||| (x ^^^ y)) ≤ 255 := by
  have : (m ||| (x ^^^ y)) < 2 ^ 8 := Nat.or_lt_two_pow (by omega) (Nat.xor_lt_two_pow (by omega) (by omega))
  omega
theorem take_succ_bytes (s : ByteArray) (k : Nat) (h : k < s.size) : s.data.toList.take (k + 1) = s.data.toList.take k ++ [s[k]] := by
  rw [List.take_succ_eq_append_getElem (by simpa using h)]; rfl
theorem same_step {a b : ByteArray} {k m : Nat} (ha : k < a.size) (hb : k < b.size) (h : m = 0 ↔ a.data.toList.take k = b.data.toList.take k) :
    (m ||| (a[k].toNat ^^^ b[k].toNat)) = 0 ↔ a.data.toList.take (k + 1) = b.data.toList.take (k + 1) := by
  rw [or_xor_zero, h, take_succ_bytes a k ha, take_succ_bytes b k hb]
  constructor
  · rintro ⟨h1, h2⟩; rw [h1, UInt8.toNat_inj.1 h2]
  · intro h3
    have h4 := List.append_inj h3 (by simp; omega)
    exact ⟨h4.1, by simpa using congrArg UInt8.toNat (List.singleton_inj.1 h4.2)⟩
/-- two strings are the same -/
def sameB (a b : ByteArray) : Bool := a.data.toList == b.data.toList
theorem sameB_no {a b : ByteArray} (h : a.size ≠ b.size) : sameB a b = false := by
  unfold sameB
  rw [beq_eq_false_iff_ne]
  intro e
  exact h (by simpa using congrArg List.length e)

theorem same_end {a b : ByteArray} {m : Nat} (h : a.size = b.size) (he : m = 0 ↔ a.data.toList.take a.size = b.data.toList.take a.size) : ((m : Int) == 0) = sameB a b := by
  rw [List.take_of_length_le (by simp), List.take_of_length_le (by simp; omega)] at he
  unfold sameB
  rw [Bool.eq_iff_iff, beq_iff_eq, beq_iff_eq, ← he]
  omega

end Go.Proofs.Ytdhdgppdmgabiaa

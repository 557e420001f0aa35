/- Words for memory and for bytes, without the program: an own slice of bytes read as a string, big-endian bytes. -/
import Derived.WalkKit
import Derived.WalkSpells
import Derived.WalkLawsBesides
import Derived.Laws.OwnMore
import Derived.Laws.IdiomStrings
import Derived.Lib.BufferRead
import Derived.Lib.Hide
import Derived.Laws.BitsAllLaws
import Derived.Laws.BitsLemmas
namespace Go.Proofs.YtmhekefjlepfpaaDoor
open Go.RowKit
set_option linter.unusedVariables false
set_option linter.unusedSimpArgs false

/-- a byte as a value -/
def vb (x : UInt8) : Value := .int .u8 (x.toNat : Int)
/-- a number as a value -/
def vn (x : Int) : Value := .int .i64 x
/-- a string as a value -/
def vs (x : ByteArray) : Value := .string x
/-- a list of bytes as a string -/
def str (l : List UInt8) : ByteArray := ⟨l.toArray⟩

theorem str_size (l : List UInt8) : (str l).size = l.length := by simp [str, ByteArray.size]
theorem str_toList (l : List UInt8) : (str l).data.toList = l := by simp [str]
theorem str_inj {a b : List UInt8} (h : str a = str b) : a = b := by
  have := congrArg (fun s => s.data.toList) h; simpa [str] using this
theorem str_of (s : ByteArray) : str s.data.toList = s := by cases s; simp [str]

theorem ret_eq {a b : Value} (h : a = b) : Ending.returned a = .returned b := by rw [h]
theorem vb_mod (a : Nat) : Value.int .u8 ((a : Int) % 256) = vb (UInt8.ofNat a) := by
  simp only [vb, UInt8.toNat_ofNat']; congr 1
theorem vb_zero : Value.int .u8 0 = vb 0 := rfl

theorem Below.bcell {W w1 : World} (hb : Below W.heap.size W w1) : (∀ b o, b < W.heap.size → w1.cell? ⟨b, o, none⟩ = W.cell? ⟨b, o, none⟩) ∧ (∀ b o, b < W.heap.size → w1.frozen? ⟨b, o, none⟩ = W.frozen? ⟨b, o, none⟩) :=
  ⟨fun b o h => hb.cell (p := ⟨b, o, none⟩) h, fun b o h => hb.frozen (p := ⟨b, o, none⟩) h⟩

theorem own_size {w : World} {B : Nat} {e : TypeId} {sz g n cap : Nat} {xs : List Value} (h : w.ownsRow B e sz (.slice (some ⟨g, 0, none⟩) n cap) n xs) : B ≤ g ∧ g < w.heap.size := by
  exact h.lt g rfl

/-- string(b) of an own slice of bytes -/
theorem own_string {P : Program} (w : World) (src dst e : TypeId) (hs : P.underlying src = some (.slice e)) (he : P.underlying e = some (.int .u8)) (hd : P.underlying dst = some .string)
    {B n : Nat} {v : Value} {l : List UInt8} (h : w.ownsRow B e 1 v n (l.map vb)) : Sem.run P (convert src dst v) w = .ok (.string (str l)) w := by
  have hlen := h.1
  rcases h.2 with ⟨rfl, rfl⟩ | ⟨g, cap, cur, rfl, hB, hg, hnc, hm, hcs, htk⟩
  · have : l = [] := List.eq_nil_of_length_eq_zero (by simpa using hlen)
    subst this
    exact Lib.run_convert_nil_bytes w src dst e 0 hs he hd
  · have hn : n = l.length := by simpa using hlen.symm
    subst hn
    exact run_convert_bytes_back w src dst e ⟨g, 0, none⟩ cap l hs he hd (fun j hj => h.cells (g := g) rfl j _ (by simp [vb, hj]))

theorem own_set {w : World} {B : Nat} {e : TypeId} {g n cap : Nat} {xs : List Value} (h : w.ownsRow B e 1 (.slice (some ⟨g, 0, none⟩) n cap) n xs) (j : Nat) (u : Value) (ys : List Value) (hy : xs.set j u = ys) :
    (w.setCell ⟨g, j, none⟩ u).ownsRow B e 1 (.slice (some ⟨g, 0, none⟩) n cap) n ys := hy ▸ (h.stored j u).1

/-- the k last bytes of a number, the most significant first -/
def be (n : Nat) : Nat → List UInt8
  | 0 => []
  | k + 1 => be (n / 256) k ++ [UInt8.ofNat n]
theorem be_len (n k : Nat) : (be n k).length = k := by
  induction k generalizing n with
  | zero => rfl
  | succ k ih => simp [be, ih]
theorem be_head (n k : Nat) : be n (k + 1) = UInt8.ofNat (n / 256 ^ k) :: be n k := by
  induction k generalizing n with
  | zero => simp [be]
  | succ k ih =>
    rw [be, ih, be]
    simp [Nat.div_div_eq_div_mul, Nat.pow_succ, Nat.mul_comm]
theorem be_append (n a b : Nat) : be n (a + b) = be (n / 256 ^ b) a ++ be n b := by
  induction b generalizing n with
  | zero => simp [be]
  | succ b ih =>
    rw [← Nat.add_assoc, be, ih, be, Nat.div_div_eq_div_mul, Nat.pow_succ, Nat.mul_comm 256]
    simp


theorem ret_int {k : IntKind} {a b : Int} (h : a = b) : Ending.returned (.int k a) = .returned (.int k b) := by rw [h]
theorem ret_bool {a b : Bool} (h : a = b) : Ending.returned (.bool a) = .returned (.bool b) := by rw [h]
theorem ret_str {a b : ByteArray} (h : a = b) : Ending.returned (.string a) = .returned (.string b) := by rw [h]
theorem ret_two {a b c d : Value} (h : a = c) (k : b = d) : Ending.returned (.tuple #[a, b]) = .returned (.tuple #[c, d]) := by rw [h, k]

theorem i64_or_nat (a b : Nat) (ha : a < 2 ^ 62) (hb : b < 2 ^ 62) : bits .or .i64 (a : Int) (b : Int) = ((a ||| b : Nat) : Int) := by
  have hx : a ||| b < 2 ^ 62 := Nat.or_lt_two_pow ha hb
  have e : ∀ n : Nat, n < 2 ^ 62 → (BitVec.ofInt 64 (n : Int)).toNat = n := fun n hn => by
    rw [BitVec.ofInt_natCast, BitVec.toNat_ofNat]; exact Nat.mod_eq_of_lt (by omega)
  show IntKind.i64.wrap ((BitVec.ofInt 64 (a : Int) ||| BitVec.ofInt 64 (b : Int)).toNat : Int) = _
  rw [BitVec.toNat_or, e a ha, e b hb, IntKind.wrap_i64]
  omega
theorem i64_and_nat (a b : Nat) (ha : a < 2 ^ 62) (hb : b < 2 ^ 62) : bits .and .i64 (a : Int) (b : Int) = ((a &&& b : Nat) : Int) := by
  have hx : a &&& b < 2 ^ 62 := Nat.and_lt_two_pow _ hb
  have e : ∀ n : Nat, n < 2 ^ 62 → (BitVec.ofInt 64 (n : Int)).toNat = n := fun n hn => by
    rw [BitVec.ofInt_natCast, BitVec.toNat_ofNat]; exact Nat.mod_eq_of_lt (by omega)
  show IntKind.i64.wrap ((BitVec.ofInt 64 (a : Int) &&& BitVec.ofInt 64 (b : Int)).toNat : Int) = _
  rw [BitVec.toNat_and, e a ha, e b hb, IntKind.wrap_i64]
  omega
theorem w64_nat (a : Nat) (h : a < 2 ^ 63) : wrap64 (a : Int) = a := IntWalk.wrap64_in _ ⟨by omega, by omega⟩

/-- an or of xors is 0 where the bytes are the same -/
theorem or_xor_zero (m x y : Nat) : (m ||| (x ^^^ y)) = 0 ↔ (m = 0 ∧ x = y) := by
  rw [Nat.or_eq_zero_iff]
  have h : x ^^^ y = 0 ↔ x = y := by
    constructor
    · intro h
      have h2 : (x ^^^ y) ^^^ y = y := by rw [h, Nat.zero_xor]
      rwa [Nat.xor_assoc, Nat.xor_self, Nat.xor_zero] at h2
    · rintro rfl; exact Nat.xor_self _
  rw [h]
theorem or_xor_le {m x y : Nat} (h : m ≤ 255) (hx : x < 256) (hy : y < 256) : (m ||| (x ^^^ y)) ≤ 255 := by
  have : (m ||| (x ^^^ y)) < 2 ^ 8 := Nat.or_lt_two_pow (by omega) (Nat.xor_lt_two_pow (by omega) (by omega))
  omega
theorem take_succ_bytes (s : ByteArray) (k : Nat) (h : k < s.size) : s.data.toList.take (k + 1) = s.data.toList.take k ++ [s[k]] := by
  rw [List.take_succ_eq_append_getElem (by simpa using h)]; rfl
theorem same_step {a b : ByteArray} {k m : Nat} (ha : k < a.size) (hb : k < b.size) (h : m = 0 ↔ a.data.toList.take k = b.data.toList.take k) :
    (m ||| (a[k].toNat ^^^ b[k].toNat)) = 0 ↔ a.data.toList.take (k + 1) = b.data.toList.take (k + 1) := by
  rw [or_xor_zero, h, take_succ_bytes a k ha, take_succ_bytes b k hb]
  constructor
  · rintro ⟨h1, h2⟩; rw [h1, UInt8.toNat_inj.1 h2]
  · intro h3
    have h4 := List.append_inj h3 (by simp; omega)
    exact ⟨h4.1, by simpa using congrArg UInt8.toNat (List.singleton_inj.1 h4.2)⟩
/-- two strings are the same -/
def sameB (a b : ByteArray) : Bool := a.data.toList == b.data.toList
theorem sameB_no {a b : ByteArray} (h : a.size ≠ b.size) : sameB a b = false := by
  unfold sameB
  rw [beq_eq_false_iff_ne]
  intro e
  exact h (by simpa using congrArg List.length e)

theorem same_end {a b : ByteArray} {m : Nat} (h : a.size = b.size) (he : m = 0 ↔ a.data.toList.take a.size = b.data.toList.take a.size) : ((m : Int) == 0) = sameB a b := by
  rw [List.take_of_length_le (by simp), List.take_of_length_le (by simp; omega)] at he
  unfold sameB
  rw [Bool.eq_iff_iff, beq_iff_eq, beq_iff_eq, ← he]
  omega

/-- append to an own slice, as one step of a region that draws -/
theorem step_append_own {P : Program} {ops : Array Oper} {o : Oper} {a : Act} {w : World} {K : Act → World → Prop} {Q : Exit → Act → World → Prop} {E : Prop}
    (hgd : o.guard = none) (s x : Operand) (t : TypeId) (ho : o.op = Op.call { callee := Callee.builtin Builtin.append, args := #[s, x], argTypes := #[t, t] })
    (base : Nat) (e : TypeId) (i : TypeInfo) (z : Value) (size bytes : Nat) (ht : P.underlying t = some (.slice e)) (hi : P.info? e = some i) (hz : i.zero = some z) (hsize : i.size = size) (hby : i.bytes = bytes) (hzs : z.cells.size = size) (hsz : 0 < size)
    (v : Value) (n : Nat) (xs : List Value) (hs : a.eval s = v) (hown : w.ownsRow base e size v n xs) (ad : Addr) (m c : Nat) (news : List Value)
    (hx : a.eval x = .slice (some ad) m c) (hl : news.length = m * size) (hnews : ∀ (j : Nat) (u : Value), news[j]? = some u → w.cell? (ad.add j) = some u)
    (h1 : ∀ (u : Value), u ∈ news → u.oneCell' = true) (h63 : n + m ≤ maxLen) (hbytes : (n + m) * bytes ≤ 140737488355328) (hbase : base ≤ w.heap.size)
    (h : ∀ (v' : Value) (w' : World), w'.ownsRow base e size v' (n + m) (xs ++ news) → w.grownBy w' v.ownBlock → K (a.put o.dst v') w') :
    if Region.wanted o (yielded ops a.tmps) = true then Oper.wp P o a w K Q else E := by
  have hw : Region.wanted o (yielded ops a.tmps) = true := by simp [Region.wanted, hgd]
  rw [if_pos hw]
  exact wp_append_own w s x t ho base e i z size bytes ht hi hz hsize hby hzs hsz v n xs hs hown ad m c news hx hl hnews h1 h63 hbytes hbase (fun v' w' h2 h3 _ => h v' w' h2 h3)

/-- the hexadecimal digit of a number below 16 -/
def hexC (n : Nat) : UInt8 := if n < 10 then UInt8.ofNat (48 + n) else UInt8.ofNat (87 + n)
def hexL (l : List UInt8) : List UInt8 := l.flatMap fun c => [hexC (c.toNat / 16), hexC (c.toNat % 16)]
theorem hexL_snoc (l : List UInt8) (c : UInt8) : hexL (l ++ [c]) = hexL l ++ [hexC (c.toNat / 16), hexC (c.toNat % 16)] := by simp [hexL]
theorem hexL_len (l : List UInt8) : (hexL l).length = 2 * l.length := by
  induction l with
  | nil => rfl
  | cons c l ih => simp only [hexL, List.flatMap_cons, List.length_append, List.length_cons, List.length_nil] at ih ⊢; omega

theorem new_cells (w : World) (cs : Array Value) (t : TypeId) : ∀ (j : Nat) (u : Value), cs.toList[j]? = some u → (w.alloc (.cells cs t)).cell? ((⟨w.heap.size, 0, none⟩ : Addr).add j) = some u := by
  intro j u h
  have hs := (World.ownsRow_lit (base := w.heap.size) (e := t) (size := 1) w cs cs.size (Nat.le_refl _))
  unfold Addr.add
  have e : (w.alloc (.cells cs t)).heap[w.heap.size]? = some (.cells cs t (0, 0)) := by
    show (w.heap.push _)[w.heap.size]? = _
    simp
  have c := cell_of_row (w.alloc (.cells cs t)) w.heap.size j cs t (0, 0) e
  split <;> simp_all
theorem new_cells_at (w : World) (cs : Array Value) (t : TypeId) (g : Nat) (hg : g = w.heap.size) : ∀ (j : Nat) (u : Value), cs.toList[j]? = some u → (w.alloc (.cells cs t)).cell? ((⟨g, 0, none⟩ : Addr).add j) = some u := by
  subst hg; exact new_cells w cs t
/-- the digit out of the table -/
theorem hex_digit (i n : Nat) (h : i < 16) (e : i = n) (h' : i < (⟨#[48, 49, 50, 51, 52, 53, 54, 55, 56, 57, 97, 98, 99, 100, 101, 102]⟩ : ByteArray).size) :
    (⟨#[48, 49, 50, 51, 52, 53, 54, 55, 56, 57, 97, 98, 99, 100, 101, 102]⟩ : ByteArray)[i] = hexC n := by
  subst e
  have : ∀ i : Fin 16, (⟨#[48, 49, 50, 51, 52, 53, 54, 55, 56, 57, 97, 98, 99, 100, 101, 102]⟩ : ByteArray)[i.1]'(i.2) = hexC i.1 := by decide
  exact this ⟨i, h⟩

theorem vb_int (z : Int) (h : 0 ≤ z) : Value.int .u8 (z % 256) = vb (UInt8.ofNat z.toNat) := by
  obtain ⟨n, rfl⟩ := Int.eq_ofNat_of_zero_le h
  exact vb_mod n
theorem vb_small (z : Int) (h : 0 ≤ z) (h' : z < 256) : Value.int .u8 z = vb (UInt8.ofNat z.toNat) := by
  rw [← vb_int z h, Int.emod_eq_of_lt h h']
/-- the worth of a hexadecimal digit; below 0: it is none -/
def hexV (c : UInt8) : Int := if 48 ≤ c.toNat ∧ c.toNat ≤ 57 then (c.toNat : Int) - 48 else if 97 ≤ c.toNat ∧ c.toNat ≤ 102 then (c.toNat : Int) - 87 else -1
theorem hexV_le (c : UInt8) : hexV c ≤ 15 := by unfold hexV; split <;> (try split) <;> omega
def unhexL : List UInt8 → Option (List UInt8)
  | [] => some []
  | [_] => none
  | a :: b :: r => if hexV a < 0 ∨ hexV b < 0 then none else (unhexL r).map (UInt8.ofNat (16 * hexV a + hexV b).toNat :: ·)
def unhexO (s : ByteArray) : Option (List UInt8) := if s.size % 2 = 0 ∧ s.size ≤ 40000 then unhexL s.data.toList else none
def unhexT (s : ByteArray) : ByteArray := str ((unhexO s).getD [])
def unhexB (s : ByteArray) : Bool := (unhexO s).isSome
theorem drop_two (s : ByteArray) (k : Nat) (h : k + 1 < s.size) : s.data.toList.drop k = (s[k]'(by omega)) :: (s[k + 1]'h) :: s.data.toList.drop (k + 2) := by
  rw [List.drop_eq_getElem_cons (by simp; omega), List.drop_eq_getElem_cons (by simp; omega)]
  rfl
theorem drop_one (s : ByteArray) (k : Nat) (h : k < s.size) : s.data.toList.drop k = (s[k]'h) :: s.data.toList.drop (k + 1) := by
  rw [List.drop_eq_getElem_cons (by simp; omega)]
  rfl

/-- bytes as a number, the most significant first -/
def ofBe (l : List UInt8) : Nat := l.foldl (fun n b => n * 256 + b.toNat) 0
theorem ofBe_snoc (l : List UInt8) (b : UInt8) : ofBe (l ++ [b]) = ofBe l * 256 + b.toNat := by simp [ofBe]
theorem ofBe_lt (l : List UInt8) : ofBe l < 256 ^ l.length := by
  have h : ∀ (l : List UInt8) (n : Nat), l.foldl (fun n b => n * 256 + b.toNat) n < (n + 1) * 256 ^ l.length := by
    intro l
    induction l with
    | nil => intro n; simp
    | cons b l ih =>
      intro n
      have hb := b.toNat_lt
      refine Nat.lt_of_lt_of_le (ih _) ?_
      rw [List.length_cons, Nat.pow_succ, Nat.mul_comm (256 ^ l.length) 256, ← Nat.mul_assoc]
      have h2 : n * 256 + b.toNat + 1 ≤ (n + 1) * 256 := by omega
      exact Nat.mul_le_mul_right _ h2
  simpa [ofBe] using h l 0
theorem ofBe_small {l : List UInt8} (h : l.length ≤ 6) : ofBe l < 281474976710656 :=
  Nat.lt_of_lt_of_le (ofBe_lt l) (Nat.pow_le_pow_right (by omega) h)
theorem or_byte (n b : Nat) (hn : n < 2 ^ 50) (hb : b < 256) : bits .or .i64 ((n : Int) * 256) (b : Int) = ((n * 256 + b : Nat) : Int) := by
  have e : ((n : Int) * 256) = ((n * 256 : Nat) : Int) := by omega
  rw [e, i64_or_nat _ _ (by omega) (by omega), nat_join 8 _ _ (by simp) hb]

end Go.Proofs.YtmhekefjlepfpaaDoor

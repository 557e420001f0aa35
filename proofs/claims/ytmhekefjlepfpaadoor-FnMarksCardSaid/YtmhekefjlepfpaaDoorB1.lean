/- The walks: the words of SHA-256. -/
import Derived.Test.YtmhekefjlepfpaaDoorProg
import Derived.Test.YtmhekefjlepfpaaDoorK
import Derived.Test.YtmhekefjlepfpaaDoorK3
import Derived.Test.YtmhekefjlepfpaaDoorS
namespace Go.Proofs.YtmhekefjlepfpaaDoor
open Go.RowKit
set_option linter.unusedVariables false
set_option linter.unusedSimpArgs false

/-- a word as a value -/
def vw (x : Nat) : Value := .int .u32 (x : Int)
theorem rotr_bits (x n : Nat) (hx : x < 4294967296) : bits BinOp.or IntKind.u32 ((x : Int) / 2 ^ n) ((x : Int) * 2 ^ (32 - n) % 4294967296) = (rotr x n : Int) := by
  have e1 : (x : Int) / 2 ^ n = ((x / 2 ^ n : Nat) : Int) := by simp
  have e2 : (x : Int) * 2 ^ (32 - n) % 4294967296 = ((x * 2 ^ (32 - n) % 4294967296 : Nat) : Int) := by simp
  rw [e1, e2, u32_or_nat _ _ (Nat.lt_of_le_of_lt (Nat.div_le_self _ _) hx) (Nat.mod_lt _ (by omega))]
  rfl
theorem turn_i (x n : Nat) (w : World) (hx : x < 4294967296) (h1 : 1 ≤ n) (h31 : n ≤ 31) :
    Calls Tryd.prog 88 #[.int .u32 x, .int .i64 n] w fun e w' => e = .returned (.int .u32 (rotr x n : Nat)) ∧ w = w' := by
  have H := Lib.hid (rotr_bits x n hx)
  go_enter Tryd.func88, Tryd.ntmps88
  go_wp2
  go_ret
  exact ⟨ret_int H.out, rfl⟩
theorem turn_i' (x n : Nat) (w : World) (hx : x < 4294967296) (h1 : 1 ≤ n) (h31 : n ≤ 31) :
    Calls Tryd.prog 88 #[.int .u32 x, .int .i64 n] w fun e w' => e = .returned (.int .u32 (rotr x n : Nat)) ∧ w' = w :=
  (turn_i x n w hx h1 h31).mono fun _ _ h => ⟨h.1, h.2.symm⟩
theorem turn_s (x n : Nat) (w : World) (hx : x < 4294967296) (h1 : 1 ≤ n) (h31 : n ≤ 31) :
    Calls Tryd.prog 87 #[.int .u32 x, .int .u64 n] w fun e w' => e = .returned (.int .u32 (rotr x n : Nat)) ∧ w = w' := by
  have H := Lib.hid (rotr_bits x n hx)
  go_enter Tryd.func87, Tryd.ntmps87
  go_wp2
  go_ret
  exact ⟨ret_int H.out, rfl⟩

theorem turn_s' (x n : Nat) (w : World) (hx : x < 4294967296) (h1 : 1 ≤ n) (h31 : n ≤ 31) :
    Calls Tryd.prog 87 #[.int .u32 x, .int .u64 n] w fun e w' => e = .returned (.int .u32 (rotr x n : Nat)) ∧ w' = w :=
  (turn_s x n w hx h1 h31).mono fun _ _ h => ⟨h.1, h.2.symm⟩
theorem turn_i_2 (x : Nat) (w : World) (hx : x < 4294967296) :
    Calls Tryd.prog 88 #[.int .u32 (x : Int), .int .i64 2] w fun e w' => e = .returned (.int .u32 (rotr x 2 : Nat)) ∧ w = w' := turn_i x 2 w hx (by omega) (by omega)
theorem turn_s_2 (x : Nat) (w : World) (hx : x < 4294967296) :
    Calls Tryd.prog 87 #[.int .u32 (x : Int), .int .u64 2] w fun e w' => e = .returned (.int .u32 (rotr x 2 : Nat)) ∧ w = w' := turn_s x 2 w hx (by omega) (by omega)
theorem turn_i_6 (x : Nat) (w : World) (hx : x < 4294967296) :
    Calls Tryd.prog 88 #[.int .u32 (x : Int), .int .i64 6] w fun e w' => e = .returned (.int .u32 (rotr x 6 : Nat)) ∧ w = w' := turn_i x 6 w hx (by omega) (by omega)
theorem turn_s_6 (x : Nat) (w : World) (hx : x < 4294967296) :
    Calls Tryd.prog 87 #[.int .u32 (x : Int), .int .u64 6] w fun e w' => e = .returned (.int .u32 (rotr x 6 : Nat)) ∧ w = w' := turn_s x 6 w hx (by omega) (by omega)
theorem turn_i_7 (x : Nat) (w : World) (hx : x < 4294967296) :
    Calls Tryd.prog 88 #[.int .u32 (x : Int), .int .i64 7] w fun e w' => e = .returned (.int .u32 (rotr x 7 : Nat)) ∧ w = w' := turn_i x 7 w hx (by omega) (by omega)
theorem turn_s_7 (x : Nat) (w : World) (hx : x < 4294967296) :
    Calls Tryd.prog 87 #[.int .u32 (x : Int), .int .u64 7] w fun e w' => e = .returned (.int .u32 (rotr x 7 : Nat)) ∧ w = w' := turn_s x 7 w hx (by omega) (by omega)
theorem turn_i_11 (x : Nat) (w : World) (hx : x < 4294967296) :
    Calls Tryd.prog 88 #[.int .u32 (x : Int), .int .i64 11] w fun e w' => e = .returned (.int .u32 (rotr x 11 : Nat)) ∧ w = w' := turn_i x 11 w hx (by omega) (by omega)
theorem turn_s_11 (x : Nat) (w : World) (hx : x < 4294967296) :
    Calls Tryd.prog 87 #[.int .u32 (x : Int), .int .u64 11] w fun e w' => e = .returned (.int .u32 (rotr x 11 : Nat)) ∧ w = w' := turn_s x 11 w hx (by omega) (by omega)
theorem turn_i_13 (x : Nat) (w : World) (hx : x < 4294967296) :
    Calls Tryd.prog 88 #[.int .u32 (x : Int), .int .i64 13] w fun e w' => e = .returned (.int .u32 (rotr x 13 : Nat)) ∧ w = w' := turn_i x 13 w hx (by omega) (by omega)
theorem turn_s_13 (x : Nat) (w : World) (hx : x < 4294967296) :
    Calls Tryd.prog 87 #[.int .u32 (x : Int), .int .u64 13] w fun e w' => e = .returned (.int .u32 (rotr x 13 : Nat)) ∧ w = w' := turn_s x 13 w hx (by omega) (by omega)
theorem turn_i_17 (x : Nat) (w : World) (hx : x < 4294967296) :
    Calls Tryd.prog 88 #[.int .u32 (x : Int), .int .i64 17] w fun e w' => e = .returned (.int .u32 (rotr x 17 : Nat)) ∧ w = w' := turn_i x 17 w hx (by omega) (by omega)
theorem turn_s_17 (x : Nat) (w : World) (hx : x < 4294967296) :
    Calls Tryd.prog 87 #[.int .u32 (x : Int), .int .u64 17] w fun e w' => e = .returned (.int .u32 (rotr x 17 : Nat)) ∧ w = w' := turn_s x 17 w hx (by omega) (by omega)
theorem turn_i_18 (x : Nat) (w : World) (hx : x < 4294967296) :
    Calls Tryd.prog 88 #[.int .u32 (x : Int), .int .i64 18] w fun e w' => e = .returned (.int .u32 (rotr x 18 : Nat)) ∧ w = w' := turn_i x 18 w hx (by omega) (by omega)
theorem turn_s_18 (x : Nat) (w : World) (hx : x < 4294967296) :
    Calls Tryd.prog 87 #[.int .u32 (x : Int), .int .u64 18] w fun e w' => e = .returned (.int .u32 (rotr x 18 : Nat)) ∧ w = w' := turn_s x 18 w hx (by omega) (by omega)
theorem turn_i_19 (x : Nat) (w : World) (hx : x < 4294967296) :
    Calls Tryd.prog 88 #[.int .u32 (x : Int), .int .i64 19] w fun e w' => e = .returned (.int .u32 (rotr x 19 : Nat)) ∧ w = w' := turn_i x 19 w hx (by omega) (by omega)
theorem turn_s_19 (x : Nat) (w : World) (hx : x < 4294967296) :
    Calls Tryd.prog 87 #[.int .u32 (x : Int), .int .u64 19] w fun e w' => e = .returned (.int .u32 (rotr x 19 : Nat)) ∧ w = w' := turn_s x 19 w hx (by omega) (by omega)
theorem turn_i_22 (x : Nat) (w : World) (hx : x < 4294967296) :
    Calls Tryd.prog 88 #[.int .u32 (x : Int), .int .i64 22] w fun e w' => e = .returned (.int .u32 (rotr x 22 : Nat)) ∧ w = w' := turn_i x 22 w hx (by omega) (by omega)
theorem turn_s_22 (x : Nat) (w : World) (hx : x < 4294967296) :
    Calls Tryd.prog 87 #[.int .u32 (x : Int), .int .u64 22] w fun e w' => e = .returned (.int .u32 (rotr x 22 : Nat)) ∧ w = w' := turn_s x 22 w hx (by omega) (by omega)
theorem turn_i_25 (x : Nat) (w : World) (hx : x < 4294967296) :
    Calls Tryd.prog 88 #[.int .u32 (x : Int), .int .i64 25] w fun e w' => e = .returned (.int .u32 (rotr x 25 : Nat)) ∧ w = w' := turn_i x 25 w hx (by omega) (by omega)
theorem turn_s_25 (x : Nat) (w : World) (hx : x < 4294967296) :
    Calls Tryd.prog 87 #[.int .u32 (x : Int), .int .u64 25] w fun e w' => e = .returned (.int .u32 (rotr x 25 : Nat)) ∧ w = w' := turn_s x 25 w hx (by omega) (by omega)
theorem xor2_bits (a b : Nat) (ha : a < 4294967296) (hb : b < 4294967296) : bits BinOp.xor IntKind.u32 (a : Int) (b : Int) = ((a ^^^ b : Nat) : Int) := u32_xor_nat _ _ ha hb
theorem sg0_bits (x : Nat) (hx : x < 4294967296) : bits BinOp.xor IntKind.u32 (bits BinOp.xor IntKind.u32 (rotr x 7 : Int) (rotr x 18 : Int)) ((x : Int) / 8) = (sg0 x : Int) := by
  rw [xor2_bits _ _ (rotr_lt hx) (rotr_lt hx), show (x : Int) / 8 = ((x / 8 : Nat) : Int) by omega, xor2_bits _ _ (xor_lt (rotr_lt hx) (rotr_lt hx)) (by omega)]
  rfl
theorem sg1_bits (x : Nat) (hx : x < 4294967296) : bits BinOp.xor IntKind.u32 (bits BinOp.xor IntKind.u32 (rotr x 17 : Int) (rotr x 19 : Int)) ((x : Int) / 1024) = (sg1 x : Int) := by
  rw [xor2_bits _ _ (rotr_lt hx) (rotr_lt hx), show (x : Int) / 1024 = ((x / 1024 : Nat) : Int) by omega, xor2_bits _ _ (xor_lt (rotr_lt hx) (rotr_lt hx)) (by omega)]
  rfl
theorem wrap4 (a b c d : Nat) : IntKind.u32.wrap (IntKind.u32.wrap (IntKind.u32.wrap ((a : Int) + b) + c) + d) = (((((a + b) % 4294967296 + c) % 4294967296 + d) % 4294967296 : Nat) : Int) := by
  simp only [IntKind.wrap_u32']; omega

theorem ch_bits (e f g : Nat) (he : e < 4294967296) (hf : f < 4294967296) (hg : g < 4294967296) :
    bits BinOp.xor IntKind.u32 (bits BinOp.and IntKind.u32 (e : Int) (f : Int)) (bits BinOp.and IntKind.u32 (bits BinOp.xor IntKind.u32 IntKind.u32.max (e : Int)) (g : Int)) = (chF e f g : Int) := by
  rw [show IntKind.u32.max = ((4294967295 : Nat) : Int) from rfl, xor2_bits _ _ (by omega) he, u32_and_nat _ _ he hf, u32_and_nat _ _ (xor_lt (by omega) he) hg, xor2_bits _ _ (and_lt hf) (and_lt hg)]
  rfl
theorem ch_bits' (e f g : Nat) (he : e < 4294967296) (hf : f < 4294967296) (hg : g < 4294967296) :
    bits BinOp.xor IntKind.u32 (bits BinOp.and IntKind.u32 (e : Int) (f : Int)) (bits BinOp.and IntKind.u32 (bits BinOp.xor IntKind.u32 (e : Int) 4294967295) (g : Int)) = (chF e f g : Int) := by
  rw [show (4294967295 : Int) = ((4294967295 : Nat) : Int) from rfl, xor2_bits _ _ he (by omega), u32_and_nat _ _ he hf, u32_and_nat _ _ (xor_lt he (by omega)) hg, xor2_bits _ _ (and_lt hf) (and_lt hg), Nat.xor_comm e]
  rfl
theorem maj_bits (a b c : Nat) (ha : a < 4294967296) (hb : b < 4294967296) (hc : c < 4294967296) :
    bits BinOp.xor IntKind.u32 (bits BinOp.xor IntKind.u32 (bits BinOp.and IntKind.u32 (a : Int) (b : Int)) (bits BinOp.and IntKind.u32 (a : Int) (c : Int))) (bits BinOp.and IntKind.u32 (b : Int) (c : Int)) = (majF a b c : Int) := by
  rw [u32_and_nat _ _ ha hb, u32_and_nat _ _ ha hc, u32_and_nat _ _ hb hc, xor2_bits _ _ (and_lt hb) (and_lt hc), xor2_bits _ _ (xor_lt (and_lt hb) (and_lt hc)) (and_lt hc)]
  rfl
theorem big1_bits (x : Nat) (hx : x < 4294967296) : bits BinOp.xor IntKind.u32 (bits BinOp.xor IntKind.u32 (rotr x 6 : Int) (rotr x 11 : Int)) (rotr x 25 : Int) = (big1 x : Int) := by
  rw [xor2_bits _ _ (rotr_lt hx) (rotr_lt hx), xor2_bits _ _ (xor_lt (rotr_lt hx) (rotr_lt hx)) (rotr_lt hx)]
  rfl
theorem big0_bits (x : Nat) (hx : x < 4294967296) : bits BinOp.xor IntKind.u32 (bits BinOp.xor IntKind.u32 (rotr x 2 : Int) (rotr x 13 : Int)) (rotr x 22 : Int) = (big0 x : Int) := by
  rw [xor2_bits _ _ (rotr_lt hx) (rotr_lt hx), xor2_bits _ _ (xor_lt (rotr_lt hx) (rotr_lt hx)) (rotr_lt hx)]
  rfl
theorem wrapX (kk ww : Nat) (t : St) : IntKind.u32.wrap (IntKind.u32.wrap (IntKind.u32.wrap (IntKind.u32.wrap ((t.h : Int) + (big1 t.e : Nat)) + (chF t.e t.f t.g : Nat)) + (kk : Int)) + (ww : Int)) = (xOf kk ww t : Int) := by
  unfold xOf
  simp only [IntKind.wrap_u32']; omega
theorem wrapY (t : St) : ((big0 t.a : Int) + (majF t.a t.b t.c : Nat)) % 4294967296 = (yOf t : Int) := by unfold yOf; omega

/-- the eight words as cells -/
def stv (s : St) : Array Value := #[vw s.a, vw s.b, vw s.c, vw s.d, vw s.e, vw s.f, vw s.g, vw s.h]
/-- eight words stored, one behind the other -/
def put8 (w : World) (g : Nat) (s : St) : World :=
  (((((((w.setCell ⟨g, 0, none⟩ (vw s.a)).setCell ⟨g, 1, none⟩ (vw s.b)).setCell ⟨g, 2, none⟩ (vw s.c)).setCell ⟨g, 3, none⟩ (vw s.d)).setCell ⟨g, 4, none⟩ (vw s.e)).setCell ⟨g, 5, none⟩ (vw s.f)).setCell ⟨g, 6, none⟩ (vw s.g)).setCell ⟨g, 7, none⟩ (vw s.h)
theorem put8_same {w : World} {g : Nat} {t : TypeId} {s s' : St} (h : Blk w g t (stv s).toList) : Blk (put8 w g s') g t (stv s').toList :=
  ((((((((h.set_ 0 (vw s'.a)).set_ 1 (vw s'.b)).set_ 2 (vw s'.c)).set_ 3 (vw s'.d)).set_ 4 (vw s'.e)).set_ 5 (vw s'.f)).set_ 6 (vw s'.g)).set_ 7 (vw s'.h)).eq rfl
theorem put8_far {w : World} {g g' : Nat} {t : TypeId} {cs : List Value} {s : St} (h : Blk w g t cs) (hne : g ≠ g') : Blk (put8 w g' s) g t cs :=
  (((((((h.far (p := ⟨g', 0, none⟩) hne _).far (p := ⟨g', 1, none⟩) hne _).far (p := ⟨g', 2, none⟩) hne _).far (p := ⟨g', 3, none⟩) hne _).far (p := ⟨g', 4, none⟩) hne _).far (p := ⟨g', 5, none⟩) hne _).far (p := ⟨g', 6, none⟩) hne _).far (p := ⟨g', 7, none⟩) hne _
theorem put8_below {B g : Nat} {w w' : World} {s : St} (h : Below B w w') (hg : B ≤ g) : Below B w (put8 w' g s) :=
  (((((((h.setCell (p := ⟨g, 0, none⟩) hg _).setCell (p := ⟨g, 1, none⟩) hg _).setCell (p := ⟨g, 2, none⟩) hg _).setCell (p := ⟨g, 3, none⟩) hg _).setCell (p := ⟨g, 4, none⟩) hg _).setCell (p := ⟨g, 5, none⟩) hg _).setCell (p := ⟨g, 6, none⟩) hg _).setCell (p := ⟨g, 7, none⟩) hg _
/-- the variable roundWords holds what it was laid with -/
def HoldsK (w : World) : Prop := 1 < w.heap.size ∧ ∀ k, k < 64 → w.cell? ⟨1, k, none⟩ = some (vw (roundK.getD k 0))
theorem HoldsK.below {w w' : World} (h : HoldsK w) (hb : Below w.heap.size w w') : HoldsK w' :=
  ⟨Nat.lt_of_lt_of_le h.1 hb.size, fun k hk => (hb.cell (p := ⟨1, k, none⟩) h.1).trans (h.2 k hk)⟩
/-- the schedule's cells after k words -/
def schC (l : List UInt8) (k : Nat) : List Value := (wsch l k ++ List.replicate (64 - k) 0).map vw
theorem schC_len {l : List UInt8} {k : Nat} (h : k ≤ 64) : (schC l k).length = 64 := by simp [schC, wsch_len]; omega
theorem schC_get {l : List UInt8} {k j : Nat} (h : j < k) : (schC l k)[j]? = some (vw ((wsch l k).getD j 0)) := by
  unfold schC
  rw [List.getElem?_map, List.getElem?_append_left (by rw [wsch_len]; exact h), List.getD_eq_getElem?_getD, List.getElem?_eq_getElem (by rw [wsch_len]; exact h)]
  rfl
theorem schC_set {l : List UInt8} {k : Nat} (h : k < 64) (x : Nat) (hx : x = if k < 16 then wordAt l k else wnext (wsch l k) k) : (schC l k).set k (vw x) = schC l (k + 1) := by
  unfold schC
  subst hx
  have e : 64 - k = (64 - (k + 1)) + 1 := by omega
  rw [e, List.replicate_succ, List.map_append, List.map_cons, List.set_append_right _ _ (by simp [wsch_len])]
  simp [wsch_len, wsch]
theorem or3_bits (a b c d : Nat) (ha : a < 256) (hb : b < 256) (hc : c < 256) (hd : d < 256) :
    bits BinOp.or IntKind.u32 (bits BinOp.or IntKind.u32 (bits BinOp.or IntKind.u32 ((a : Int) * 16777216) ((b : Int) * 65536)) ((c : Int) * 256)) (d : Int) = (((((a * 16777216 ||| b * 65536) ||| c * 256) ||| d : Nat)) : Int) := by
  have e1 : ((a : Int) * 16777216) = ((a * 16777216 : Nat) : Int) := by omega
  have e2 : ((b : Int) * 65536) = ((b * 65536 : Nat) : Int) := by omega
  have e3 : ((c : Int) * 256) = ((c * 256 : Nat) : Int) := by omega
  rw [e1, e2, e3, u32_or_nat _ _ (by omega) (by omega), u32_or_nat _ _ (or_lt (by omega) (by omega)) (by omega), u32_or_nat _ _ (or_lt (or_lt (by omega) (by omega)) (by omega)) (by omega)]
theorem getD_byte (s : ByteArray) (j : Nat) (h : j < s.size) : s.data.toList.getD j 0 = s[j] := by
  rw [List.getD_eq_getElem?_getD, List.getElem?_eq_getElem (by simpa using h)]
  rfl
/-- the eight words -/
def stl (s : St) : List Nat := [s.a, s.b, s.c, s.d, s.e, s.f, s.g, s.h]
theorem stv_stl (s : St) : (stv s).toList = (stl s).map vw := rfl
/-- the first j words added -/
def mixL (s t : St) (j : Nat) : List Nat := (stl (addSt t s)).take j ++ (stl t).drop j
theorem mixL_zero (s t : St) : mixL s t 0 = stl t := rfl
theorem mixL_all (s t : St) : mixL s t 8 = stl (addSt t s) := rfl
theorem mixL_get {s t : St} {j : Nat} (h : j < 8) : ((mixL s t j).map vw)[j]? = some (vw ((stl t).getD j 0)) := by
  rcases (show j = 0 ∨ j = 1 ∨ j = 2 ∨ j = 3 ∨ j = 4 ∨ j = 5 ∨ j = 6 ∨ j = 7 by omega) with rfl | rfl | rfl | rfl | rfl | rfl | rfl | rfl <;> rfl
theorem mixL_set {s t : St} {j : Nat} (h : j < 8) : ((mixL s t j).map vw).set j (vw (((stl t).getD j 0 + (stl s).getD j 0) % 4294967296)) = (mixL s t (j + 1)).map vw := by
  rcases (show j = 0 ∨ j = 1 ∨ j = 2 ∨ j = 3 ∨ j = 4 ∨ j = 5 ∨ j = 6 ∨ j = 7 by omega) with rfl | rfl | rfl | rfl | rfl | rfl | rfl | rfl <;> rfl
theorem stl_get {s : St} {j : Nat} (h : j < 8) : ((stv s).toList)[j]? = some (vw ((stl s).getD j 0)) := by
  rcases (show j = 0 ∨ j = 1 ∨ j = 2 ∨ j = 3 ∨ j = 4 ∨ j = 5 ∨ j = 6 ∨ j = 7 by omega) with rfl | rfl | rfl | rfl | rfl | rfl | rfl | rfl <;> rfl
/-- eight words stored, the last first -/
def put8r (w : World) (g : Nat) (s : St) : World :=
  (((((((w.setCell ⟨g, 7, none⟩ (vw s.h)).setCell ⟨g, 6, none⟩ (vw s.g)).setCell ⟨g, 5, none⟩ (vw s.f)).setCell ⟨g, 4, none⟩ (vw s.e)).setCell ⟨g, 3, none⟩ (vw s.d)).setCell ⟨g, 2, none⟩ (vw s.c)).setCell ⟨g, 1, none⟩ (vw s.b)).setCell ⟨g, 0, none⟩ (vw s.a)
theorem put8r_same {w : World} {g : Nat} {t : TypeId} {s s' : St} (h : Blk w g t (stv s).toList) : Blk (put8r w g s') g t (stv s').toList :=
  ((((((((h.set_ 7 (vw s'.h)).set_ 6 (vw s'.g)).set_ 5 (vw s'.f)).set_ 4 (vw s'.e)).set_ 3 (vw s'.d)).set_ 2 (vw s'.c)).set_ 1 (vw s'.b)).set_ 0 (vw s'.a)).eq rfl
theorem put8r_far {w : World} {g g' : Nat} {t : TypeId} {cs : List Value} {s : St} (h : Blk w g t cs) (hne : g ≠ g') : Blk (put8r w g' s) g t cs :=
  (((((((h.far (p := ⟨g', 7, none⟩) hne _).far (p := ⟨g', 6, none⟩) hne _).far (p := ⟨g', 5, none⟩) hne _).far (p := ⟨g', 4, none⟩) hne _).far (p := ⟨g', 3, none⟩) hne _).far (p := ⟨g', 2, none⟩) hne _).far (p := ⟨g', 1, none⟩) hne _).far (p := ⟨g', 0, none⟩) hne _
theorem put8r_below {B g : Nat} {w w' : World} {s : St} (h : Below B w w') (hg : B ≤ g) : Below B w (put8r w' g s) :=
  (((((((h.setCell (p := ⟨g, 7, none⟩) hg _).setCell (p := ⟨g, 6, none⟩) hg _).setCell (p := ⟨g, 5, none⟩) hg _).setCell (p := ⟨g, 4, none⟩) hg _).setCell (p := ⟨g, 3, none⟩) hg _).setCell (p := ⟨g, 2, none⟩) hg _).setCell (p := ⟨g, 1, none⟩) hg _).setCell (p := ⟨g, 0, none⟩) hg _
def mixR (s t : St) (j : Nat) : List Nat := (stl (addSt t s)).take j ++ (stl s).drop j
theorem mixR_all (s t : St) : mixR s t 8 = stl (addSt t s) := rfl
theorem mixR_get {s t : St} {j : Nat} (h : j < 8) : ((mixR s t j).map vw)[j]? = some (vw ((stl s).getD j 0)) := by
  rcases (show j = 0 ∨ j = 1 ∨ j = 2 ∨ j = 3 ∨ j = 4 ∨ j = 5 ∨ j = 6 ∨ j = 7 by omega) with rfl | rfl | rfl | rfl | rfl | rfl | rfl | rfl <;> rfl
theorem mixR_set {s t : St} {j : Nat} (h : j < 8) : ((mixR s t j).map vw).set j (vw (((stl t).getD j 0 + (stl s).getD j 0) % 4294967296)) = (mixR s t (j + 1)).map vw := by
  rcases (show j = 0 ∨ j = 1 ∨ j = 2 ∨ j = 3 ∨ j = 4 ∨ j = 5 ∨ j = 6 ∨ j = 7 by omega) with rfl | rfl | rfl | rfl | rfl | rfl | rfl | rfl <;> rfl
theorem wrap4' (a b c d : Nat) : IntKind.u32.wrap (IntKind.u32.wrap (IntKind.u32.wrap ((a : Int) + c) + b) + d) = (((((a + b) % 4294967296 + c) % 4294967296 + d) % 4294967296 : Nat) : Int) := by
  simp only [IntKind.wrap_u32']; omega
end Go.Proofs.YtmhekefjlepfpaaDoor
